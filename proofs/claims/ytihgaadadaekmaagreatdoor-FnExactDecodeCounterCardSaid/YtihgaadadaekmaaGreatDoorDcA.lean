/- A small language in which the program's functions are read by value: its values, its operations, its code, and how the program's code is brought into it. -/
import Derived.WalkKit
import Derived.WalkSpells
import Derived.WalkLawsBesides
import Derived.Lib.Hide
import Derived.Great.BuildSlice
import Derived.Conc.LoneCalls
import Derived.MapKept
import Derived.WideKeyRuns
set_option linter.unusedVariables false
set_option linter.unusedSimpArgs false
set_option maxRecDepth 100000
set_option maxHeartbeats 16000000
namespace Go.Proofs.YtihgaadadaekmaaGreatDoor.V
open Go.RowKit
structure Id where
  site:Nat
  bZ:Nat
  deriving DecidableEq,Repr
inductive TS where
  |tI|tB|tS
  deriving Repr,DecidableEq
structure MK where
  ka:Bool
  ts:List TS
  deriving Repr,DecidableEq
inductive AV where
  |int (k:IntKind) (n:Int)
  |bool (b:Bool)
  |str (s:ByteArray)
  |bE|fZ|iH
  |sl (rows:List (List AV))
  |own (id:Id) (off len:Nat)
  |ptr (id:Id) (i off:Nat)
  |cH (cs:List AV)
  |agg (cs:List AV)
  |gU (vs:List AV)
  |fn (f:Nat) (cq:List AV)
  |map (id:Id) (m:MK)
  |iR
  |tU (f:Nat) (first:List AV)
  |qf (id:Id)
  deriving Inhabited
def AV.undef:AV:=.gU []
def AV.cell:AV->Bool
  | .agg _| .gU _=>false
  |_=>true
def AV.cells:AV->List AV
  | .agg cs=>cs
  |v=>[v]
inductive K where
  |int (k:IntKind) (n:Int)
  |bool (b:Bool)
  |str (l:List UInt8)
  |bE|fZ|iH|iR
  deriving Repr,DecidableEq
def K.val:K->Value
  | .int k n=>.int k n
  | .bool b=>.bool b
  | .str l=>.string ⟨l.toArray⟩
  | .bE=>.slice none 0 0
  | .fZ=>.pointer none
  | .iH=>.nilFunc
  | .iR=>.map none
def K.av:K->AV
  | .int k n=>.int k n
  | .bool b=>.bool b
  | .str l=>.str ⟨l.toArray⟩
  | .bE=>.bE
  | .fZ=>.fZ
  | .iH=>.iH
  | .iR=>.iR
def DK:Value->Option K
  | .int k n=>some (.int k n)
  | .bool b=>some (.bool b)
  | .string s=>some (.str s.data.toList)
  | .slice none 0 0=>some .bE
  | .pointer none=>some .fZ
  | .nilFunc=>some .iH
  | .map none=>some .iR
  |_=>none
inductive O where
  |t (n:Nat)
  |k (c:K)
  |ka (cs:List K)
  |f (n:Nat)
  deriving Repr,DecidableEq
inductive MQ where
  |new (m:MK)
  |look (m:MK) (ok:Bool) (zero:K)
  |len (m:MK)
  deriving Repr,DecidableEq
inductive MW where
  |set (m:MK)
  |del (m:MK)
  deriving Repr,DecidableEq
inductive fB where
  |cF (x:O)
  |pick (c a b:O)
  |new (zero:List K)
  |box (x:O)
  |build (zero:List K) (parts:List (Nat×Nat×O))
  |lq (sz len:Nat) (parts:List O)
  |load (agg:Bool) (n:Nat) (a:O)
  |store (n:Nat) (a x:O)
  |xX (x:O)
  |bin (op:BinOp) (k:IntKind) (x y:O)
  |sh (left:Bool) (x y:O)
  |HP (op:BinOp) (x y:O)
  |Kv (neg:Bool) (t:TS) (x y:O)
  |OT (neg:Bool) (ts:List TS) (x y:O)
  |Nb (neg IA:Bool) (x:O)
  |OU (neg:Bool) (x:O)
  |not (x:O)
  |neg (x:O)
  |conv (k:IntKind) (x:O)
  |BV (x:O)
  |slice (sz:Nat) (x:O) (lo hi:Option O)
  |w6 (x:O) (lo hi:Option O)
  |fq (off:Nat) (x:O)
  |field (agg:Bool) (off n:Nat) (x:O)
  |dm (sz:Nat) (x i:O)
  |Iv (len sz:Nat) (x i:O)
  |Ix (x i:O)
  |fx (agg:Bool) (len n:Nat) (x i:O)
  |extract (i:Nat) (x:O)
  |len (x:O)
  |IF (x:O)
  |append (sz:Nat) (x y:O)
  |copy (sz:Nat) (x y:O)
  |clear (zero:List K) (x:O)
  |IM (f:Nat) (cq:List O)
  |IN (f:Nat) (first:List O)
  |jg (zero:List K) (len cap:O)
  |call (f:Nat) (args:List O)
  |qN (x:O) (args:List O)
  |mq (q:MQ) (xs:List O)
  |mw (q:MW) (xs:List O)
  |Gq (x:O)
  |Gd (x:O)
  |snd (x y:O)
  |LF (x:O)
  |bad
  deriving Repr,DecidableEq
structure aW where
  dst:Option Nat
  op:fB
  guard:Option (Nat×Bool)
  site:Nat
  hid:List Nat
  deriving Repr,DecidableEq
def q (d:Nat) (op:fB) (s:Nat):aW:=⟨some d,op,none,s,[]⟩
inductive VC where
  |skip
  |eb (draw:Bool) (ops:List aW)
  |seq (a b:VC)
  |cond (c:O) (x y:VC)
  |block (id:Nat) (c:VC)
  |loop (c:VC)
  |exit (id:Nat)
  |ret
  |one (o:aW) (c:VC)
  |both (a b:VC)
  |loc (t s:Nat) (y:O) (c:VC)
  |Kp (ops:List aW)
  deriving Repr,DecidableEq
inductive nP where
  |tmp (t:Nat)
  |cell (agg:Bool) (n:Nat) (t:Nat)
  deriving Repr,DecidableEq
structure xj where
  ntmps:Nat
  vq:Nat
  body:VC
  res:List nP
  deriving Repr,DecidableEq
def e8 (P:Program) (f:Nat):Bool:=
  match P.funcs[f]? with
  |some fn=>fn.body.isSome&& !(fn.name== "runtime.NumGoroutine")
  |none=>false
def cO (P:Program):Operand->Option O
  | .tmp t=>some (.t t)
  | .const (.agg cs)=>(cs.toList.mapM DK).map O.ka
  | .const v=>(DK v).map O.k
  | .global _=>none
  | .func f=>if e8 P f then some (.f f)else none
def iT (P:Program) (t:TypeId):Option (List K):=
  match P.info? t with
  |some i=>match i.zero with
    |some v=>if v.cells.size=i.size then v.cells.toList.mapM DK else none
    |none=>none
  |none=>none
def dw (P:Program) (t:TypeId):Option Nat:=(P.info? t).map (·.size)
def mc (P:Program) (t:TypeId):Option Bool:=
  match P.underlying t with
  |some (.struct _)|some (.array _ _)=>some true
  |some _=>some false
  |none=>none
inductive PD where
  |sc (t:TS)|ag (ts:List TS)
  deriving Repr,DecidableEq
def eL (P:Program) (t:TypeId):Option TS:=
  match P.underlying t with
  |some .bool=>some .tB
  |some (.int _)=>some .tI
  |some .string=>some .tS
  |_=>none
def Ah (P:Program) (inner:List Field->Option (List TS)):Nat->List Field->Option (List TS)
  |_,[]=>some []
  |off,f::r=>
    if f.offset=off/\f.name≠ "_" then
      match eL P f.type with
      |some t=>if mc P f.type=some false then(Ah P inner (off+1) r).map (t::·)else none
      |none=>match P.underlying f.type with
        |some (.struct fs)=>if !P.stoodInHeld f.type then match inner fs.toList with
          |some ts=>if dw P f.type=some ts.length/\ts≠[]then(Ah P inner (off+ts.length) r).map (ts++·)else none
          |none=>none else none
        |_=>none
    else none
def dN (P:Program):Nat->Nat->List Field->Option (List TS)
  |0,_,[]=>some []
  |0,_,_::_=>none
  |d+1,off,fs=>Ah P (dN P d 0) off fs
def PL (P:Program) (t:TypeId):Option PD:=
  match eL P t with
  |some s=>some (.sc s)
  |none=>match P.underlying t with
    |some (.struct fs)=>if !P.stoodInHeld t&& !P.eqGuardType P.depth t then(dN P 4 0 fs.toList).map PD.ag else none
    |_=>none
def qa (P:Program) (fs:Array Field):List (Nat×O)->Option (List (Nat×Nat×O))
  |[]=>some []
  |(i,x)::r=>match fs[i]? with
    |some f=>match dw P f.type with
      |some n=>(qa P fs r).map ((f.offset,n,x)::·)
      |none=>none
    |none=>none
def qd (P:Program) (ps:Array (Nat×Operand)):Option (List (Nat×O)):=ps.toList.mapM fun(i,x)=>(cO P x).map (i,·)
def pa (P:Program):Option Operand->Option (Option O)
  |none=>some none
  |some x=>(cO P x).map some
def qb (P:Program) (neg:Bool) (t:TypeId) (x y:Operand):Option fB:=
  match y with
  | .const (.slice none 0 0)=>match P.underlying t with
    |some (.slice _)=>(cO P x).map (fB.Nb neg false)
    |_=>none
  | .const .nilFunc=>match P.underlying t with
    |some (.func ..)=>(cO P x).map (fB.Nb neg true)
    |_=>none
  | .const (.pointer none)=>match P.underlying t with
    |some (.pointer _)=>(cO P x).map (fB.OU neg)
    |_=>none
  |_=>match PL P t with
    |some (.sc s)=>do pure (.Kv neg s (<-cO P x) (<-cO P y))
    |some (.ag ts)=>do pure (.OT neg ts (<-cO P x) (<-cO P y))
    |_=>none
def ss (P:Program) (op:BinOp) (t:TypeId) (x y:Operand):Option fB:=
  match op with
  | .eql=>qb P false t x y
  | .neq=>qb P true t x y
  | .shl=>do pure (.sh true (<-cO P x) (<-cO P y))
  | .shr=>do pure (.sh false (<-cO P x) (<-cO P y))
  |op=>match P.underlying t with
    |some (.int k)=>do pure (.bin op k (<-cO P x) (<-cO P y))
    |some .string=>do pure (.HP op (<-cO P x) (<-cO P y))
    |_=>none
def qc (P:Program) (t:TypeId):Option (MK×K):=
  match P.underlying t with
  |some (.map k e)=>match mc P e,(P.info? e).bind (·.zero),eL P k,P.underlying k with
    |some false,some zv,some s,_=>(DK zv).map fun z=>(⟨false,[s]⟩,z)
    |some false,some zv,none,some (.struct fs)=>match dN P 4 0 fs.toList,DK zv with
      |some ts,some z=>if !P.stoodInHeld k/\fs.toList.all (fun f=>(eL P f.type).isSome)then some (⟨true,ts⟩,z)else none
      |_,_=>none
    |_,_,_,_=>none
  |_=>none
def lW (P:Program) (c:Call):Option fB:=
  match c.callee with
  | .builtin .len=>match c.args.toList,c.argTypes.toList with
    |[x],[t]=>match P.underlying t with
      |some (.slice _)=>(cO P x).map fB.len
      |some .string=>(cO P x).map fB.IF
      |some (.map _ _)=>match qc P t,cO P x with
        |some (m,_),some x=>some (.mq (.len m) [x])
        |_,_=>none
      |some (.chan _ _)=>(cO P x).map fB.Gd
      |_=>none
    |_,_=>none
  | .builtin .append=>match c.args.toList,c.argTypes.toList with
    |[x,y],[t,u]=>match P.underlying t with
      |some (.slice e)=>match dw P e,iT P e,P.info? e with
        |some (sz+1),some _,some i=>if i.bytes<=32768/\t=u then do pure (.append (sz+1) (<-cO P x) (<-cO P y))else none
        |_,_,_=>none
      |_=>none
    |_,_=>none
  | .builtin .clear=>match c.args.toList,c.argTypes.toList with
    |[x],[t]=>match P.underlying t with
      |some (.slice e)=>match dw P e,iT P e with
        |some (_+1),some z=>(cO P x).map (fB.clear z)
        |_,_=>none
      |_=>none
    |_,_=>none
  | .value (.func f)=>if e8 P f then(c.args.toList.mapM (cO P)).map (fB.call f)else none
  | .value (.tmp t)=>(c.args.toList.mapM (cO P)).map (fB.qN (.t t))
  | .builtin .delete=>match c.args.toList,c.argTypes.toList with
    |[x,k],[t,_]=>match qc P t,cO P x,cO P k with
      |some (m,_),some x,some k=>some (.mw (.del m) [x,k])
      |_,_,_=>none
    |_,_=>none
  | .builtin .copy=>match c.args.toList,c.argTypes.toList with
    |[x,y],[t,_]=>match P.underlying t with
      |some (.slice e)=>match dw P e with
        |some (sz+1)=>do pure (.copy (sz+1) (<-cO P x) (<-cO P y))
        |_=>none
      |_=>none
    |_,_=>none
  |_=>none
def oR (P:Program) (o:Op):Option fB:=
  match o with
  | .move x| .assign x=>(cO P x).map fB.cF
  | .pick c a b=>do pure (.pick (<-cO P c) (<-cO P a) (<-cO P b))
  | .alloc e=>(iT P e).map fB.new
  | .box _ x=>(cO P x).map fB.box
  | .load t a=>do pure (.load (<-mc P t) (<-dw P t) (<-cO P a))
  | .store t a x=>do pure (.store (<-dw P t) (<-cO P a) (<-cO P x))
  | .nilCheck x=>(cO P x).map fB.xX
  | .binOp op t x y _=>ss P op t x y
  | .unOp .not _ x=>(cO P x).map fB.not
  | .unOp .neg _ x=>(cO P x).map fB.neg
  | .convert s d x=>match P.underlying s,P.underlying d with
    |some (.int _),some (.int k)=>(cO P x).map (fB.conv k)
    |some .string,some .string=>(cO P x).map fB.BV
    |_,_=>none
  | .slice t x lo hi none=>match P.underlying t with
    |some (.slice e)=>do
      pure (.slice (<-dw P e) (<-cO P x) (<-pa P lo) (<-pa P hi))
    |some .string=>do pure (.w6 (<-cO P x) (<-pa P lo) (<-pa P hi))
    |_=>none
  | .fieldAddr s x i=>match P.underlying s with
    |some (.struct fs)=>match fs[i]? with
      |some f=>match dw P f.type with
        |some (_+1)=>(cO P x).map (fB.fq f.offset)
        |_=>none
      |none=>none
    |_=>none
  | .field s x i=>match P.underlying s with
    |some (.struct fs)=>match fs[i]? with
      |some f=>do pure (.field (<-mc P f.type) f.offset (<-dw P f.type) (<-cO P x))
      |none=>none
    |_=>none
  | .indexAddr t x i=>match P.underlying t with
    |some (.slice e)=>match dw P e with
      |some (m+1)=>do pure (.dm (m+1) (<-cO P x) (<-cO P i))
      |_=>none
    |some (.array len e)=>match dw P e with
      |some (m+1)=>do pure (.Iv len (m+1) (<-cO P x) (<-cO P i))
      |_=>none
    |_=>none
  | .index t x i=>match P.underlying t with
    |some .string=>do pure (.Ix (<-cO P x) (<-cO P i))
    |some (.array len e)=>do pure (.fx (<-mc P e) len (<-dw P e) (<-cO P x) (<-cO P i))
    |_=>none
  | .extract x i=>(cO P x).map (fB.extract i)
  | .build t ps=>match P.underlying t with
    |some (.struct fs)=>
      match iT P t,qd P ps with
      |some z,some l=>
        if fs.all (fun f=>(P.info? f.type).isSome)then(qa P fs l).map (fB.build z)else none
      |_,_=>none
    |some (.array _ e)=>
      match iT P t,qd P ps,dw P e with
      |some z,some l,some n=>some (.build z (l.map fun(i,x)=>(i*n,n,x)))
      |_,_,_=>none
    |_=>none
  | .buildSlice t len ps=>match P.underlying t with
    |some (.slice e)=>match dw P e,iT P e,qd P ps with
      |some (sz+1),some _,some l=>
        if len*(sz+1)<=4096/\l.map (·.1)=List.range len then some (.lq (sz+1) len (l.map (·.2)))else none
      |_,_,_=>none
    |_=>none
  | .makeFunc (.func f) first cq=>
    if first= #[]/\e8 P f then(cq.toList.mapM (cO P)).map (fB.IM f)else if cq= #[]/\e8 P f then(first.toList.mapM (cO P)).map (fB.IN f)else none
  | .makeSlice t l c=>match P.underlying t with
    |some (.slice e)=>match dw P e,iT P e,P.info? e with
      |some (_+1),some z,some i=>if i.bytes<=32768 then do pure (.jg z (<-cO P l) (<-cO P c))else none
      |_,_,_=>none
    |_=>none
  | .call c=>lW P c
  | .makeChan t n=>match P.underlying t with
    |some (.chan _ e)=>match P.info? e with
      |some i=>if i.bytes<=32768 then(cO P n).map fB.Gq else none
      |none=>none
    |_=>none
  | .send x y=>do pure (.snd (<-cO P x) (<-cO P y))
  | .recv t x false=>match P.underlying t with
    |some (.chan _ e)=>match (P.info? e).bind (·.zero)with
      |some _=>(cO P x).map fB.LF
      |none=>none
    |_=>none
  | .makeMap t none=>match qc P t with
    |some (m,_)=>some (.mq (.new m) [])
    |none=>none
  | .lookup t x k ok=>match qc P t,cO P x,cO P k with
    |some (m,z),some x,some k=>some (.mq (.look m ok z) [x,k])
    |_,_,_=>none
  | .mapUpdate t x k v| .insert t x k v=>match qc P t,cO P x,cO P k,cO P v with
    |some (m,_),some x,some k,some v=>some (.mw (.set m) [x,k,v])
    |_,_,_,_=>none
  | .makeInterface _ _=>some .bad
  | .panic _=>some .bad
  |_=>none
inductive PA where
  |pure|look|make|write
  deriving DecidableEq,Repr
def fB.cls:fB->PA
  | .new _| .box _| .lq .. | .jg .. | .mq (.new _) _| .Gq _=>.make
  | .load .. | .dm .. | .slice .. | .call .. | .qN .. | .mq .. | .Gd _=>.look
  | .store .. | .append .. | .copy .. | .clear .. | .mw .. | .snd .. | .LF _=>.write
  |_=>.pure
def clash:PA->PA->Bool
  | .pure,_|_,.pure=>false
  | .write,_|_,.write=>true
  |_,_=>false
def iP (ops:Array Oper):Array Nat:=Region.before ops
def oK:fB->Bool:=fun o=>o.cls==.make||o.cls==.write
def fB.kD:fB->Bool
  | .call .. | .qN .. =>true
  |_=>false
def zV (ops:Array Oper) (o:Oper):Option (Option (Nat×Bool)):=
  match o.guard with
  |none=>some none
  |some (i,b)=>match (ops[i]?).bind (·.dst)with
    |some t=>some (some (t,b))
    |none=>none
def kS (P:Program) (ops:Array Oper) (nt site0:Nat) (draw mk:Bool) (bs:Array Nat) (hidden:List (Nat×Bool)) (j:Nat) (o:Oper):Option aW:=do
  let v <-oR P o.op
  let g <-zV ops o
  if (o.dst.all fun d=>decide (d<nt))then
    pure {dst:=o.dst,op:=v,guard:=g,site:=site0+j,hid:=if draw then(hidden.filter fun(i,m)=>m&& !(bs.getD j 0).testBit i&&(i !=j||mk&&v.kD)).map fun(i,_)=>site0+i else[]}
  else none
def allM {α:Type} (f:Nat->Oper->Option α):List Oper->Nat->Option (List α)
  |[],_=>some []
  |o::r,j=>do pure ((<-f j o)::(<-allM f r (j+1)))
def fM:O->List Nat
  | .t n=>[n]
  |_=>[]
def te:Option O->List Nat
  |some x=>fM x
  |none=>[]
def fB.fE:fB->List Nat
  | .clear _ x| .cF x| .box x| .load _ _ x| .xX x| .Nb _ _ x| .OU _ x| .not x| .neg x| .conv _ x| .BV x| .fq _ x| .field _ _ _ x| .extract _ x| .len x| .IF x| .Gq x| .Gd x| .LF x=>fM x
  | .pick c a b=>fM c++fM a++fM b
  | .new _| .bad=>[]
  | .build _ ps=>ps.flatMap fun(_,_,x)=>fM x
  | .lq _ _ ps=>ps.flatMap fM
  | .store _ a x| .snd a x=>fM a++fM x
  | .bin _ _ x y| .sh _ x y| .HP _ x y| .Kv _ _ x y| .OT _ _ x y| .dm _ x y| .Iv _ _ x y| .Ix x y| .fx _ _ _ x y| .append _ x y| .copy _ x y| .jg _ x y=>fM x++fM y
  | .slice _ x lo hi| .w6 x lo hi=>fM x++te lo++te hi
  | .IM _ l| .IN _ l| .call _ l| .mq _ l| .mw _ l=>l.flatMap fM
  | .qN x l=>fM x++l.flatMap fM
def aW.fE (v:aW):List Nat:=v.op.fE++(match v.guard with|some (t,_)=>[t]|none=>[])
def qD (x y:aW):Bool:=
  (match x.dst with
   |some d=> !y.fE.contains d&&y.dst !=some d
   |none=>true)&&
  (match y.dst with
   |some d=> !x.fE.contains d
   |none=>true)
def aW.makes (v:aW):Bool:=oK v.op||v.op.kD&&v.hid.contains v.site
def B9 (x y:aW):Bool:=
  qD x y&& !clash x.op.cls y.op.cls&&(!x.makes||y.hid.contains x.site)&&(!y.makes||x.hid.contains y.site)&&x.site !=y.site
def BY (ops:Array Oper):Bool:=ops.toList.zipIdx.all fun(o,j)=>o.after.all fun e=> !Region.binds .any e||decide (e.on<j)
def mP (ops:Array Oper) (vl:List aW) (bs:Array Nat):Bool:=
  BY ops&&vl.zipIdx.all fun(y,j)=>vl.zipIdx.all fun(x,i)=> !(decide (i<j))||(bs.getD j 0).testBit i||B9 x y
def pb (P:Program) (nt site0:Nat) (ops:Array Oper) (draw mk:Bool):Option (List aW):=
  let bs:=if draw then iP ops else #[]
  let hidden:=if draw then ops.toList.zipIdx.map fun(o,i)=>(i,((oR P o.op).map fun v=>oK v||mk&&v.kD).getD false)else[]
  match allM (kS P ops nt site0 draw mk bs hidden) ops.toList 0 with
  |some vl=>if !draw||mP ops vl bs then some vl else none
  |none=>none
def jV (v:aW):Bool:= !v.op.kD&&v.op.cls !=.write
def uU (x y:aW):Bool:=qD x y&&x.op.cls==.pure||B9 x y&&jV x&&jV y
def oB (ops:Array Oper) (vl:List aW) (bs:Array Nat) (listed:Array Bool) (i:Nat):Bool:=
  match vl[i]? with
  |some x=>(List.range ops.size).all fun j=>listed.getD j false||j==i||(bs.getD j 0).testBit i||(match vl[j]? with|some y=>uU x y|none=>false)
  |none=>false
def JU (vl:List aW) (x:aW):Option (Nat×Nat×O):=
  match x.op,x.guard with
  | .append _ (.t t) y,none=>match vl.find? fun v=>v.dst==some t&&v.op.cls==.make with
    |some v=>some (t,v.site,y)
    |none=>none
  |_,_=>none
def B8 (s:Nat) (x y:aW):Bool:=qD x y&&jV y&&y.hid.contains s&&y.hid.contains x.site&&y.site !=s&&y.site !=x.site
def mT (ops:Array Oper) (vl:List aW) (bs:Array Nat) (listed:Array Bool) (i s:Nat):Bool:=
  match vl[i]? with
  |some x=>(List.range ops.size).all fun j=>listed.getD j false||j==i||(bs.getD j 0).testBit i||(match vl[j]? with|some y=>B8 s x y|none=>false)
  |none=>false
def Lr (ops:Array Oper) (vl:List aW) (bs:Array Nat) (listed:Array Bool) (i:Nat):Option (Nat×Nat×Nat×O×aW):=
  match vl[i]? with
  |some x=>match JU vl x with
    |some (t,s,y)=>if mT ops vl bs listed i s then some (i,t,s,y,x)else none
    |none=>none
  |none=>none
def xP:List VC->Option VC
  |[]=>none
  |[c]=>some c
  |c::r=>(xP r).map (VC.both c)
def tJ (ops:Array Oper) (vl:List aW) (bs:Array Nat):Nat->Array Bool->Option VC
  |0,listed=>
    match Region.ready .any ops listed with
    |[]=>some (.eb false [])
    |_::_=>none
  |n+1,listed=>
    match Region.ready .any ops listed with
    |[]=>some (.eb false [])
    |r::rs=>let rdy:=r::rs
      match rdy.find? (oB ops vl bs listed)with
      |some i=>match vl[i]? with
        |some vo=>(tJ ops vl bs n (listed.setIfInBounds i true)).map (VC.one vo)
        |none=>none
      |none=>match rdy.findSome? (Lr ops vl bs listed)with
        |some (i,t,s,y,vo)=>(tJ ops vl bs n (listed.setIfInBounds i true)).map fun c=>VC.loc t s y (.one vo c)
        |none=>match rdy.mapM fun i=>(vl[i]?).bind fun vo=>(tJ ops vl bs n (listed.setIfInBounds i true)).map (VC.one vo)with
          |some l=>xP l
          |none=>none
def JS:Op->Bool
  | .send .. | .recv .. =>true
  |_=>false
def M4 (P:Program) (nt site0:Nat) (ops:Array Oper) (draw:Bool) (mode:Nat):Option VC:=
  if draw&&mode==2 then
    match allM (kS P ops nt site0 true false (iP ops) (ops.toList.zipIdx.map fun(o,i)=>(i,((oR P o.op).map oK).getD false))) ops.toList 0 with
    |some vl=>tJ ops vl (iP ops) ops.size (Array.replicate ops.size false)
    |none=>none
  else if !draw&&ops.any (fun o=>JS o.op)then(pb P nt site0 ops false false).map VC.Kp
  else(pb P nt site0 ops draw (mode==1)).map (VC.eb draw)
def s9 (md:List (Nat×Nat)) (id:Nat):Nat:=
  match md with
  |[]=>0
  |(i,m)::r=>if i=id then m else s9 r id
def g9 (P:Program) (md:List (Nat×Nat)) (nt sF:Nat):Code->Option VC
  | .skip=>some .skip
  | .region id ops draw=>M4 P nt ((sF*1000+id)*1000) ops draw (s9 md id)
  | .seq a b=>do pure (.seq (<-g9 P md nt sF a) (<-g9 P md nt sF b))
  | .cond c x y=>do pure (.cond (<-cO P c) (<-g9 P md nt sF x) (<-g9 P md nt sF y))
  | .block id c=>(g9 P md nt sF c).map (VC.block id)
  | .loop c=>(g9 P md nt sF c).map VC.loop
  | .exit id=>some (.exit id)
  | .ret=>some .ret
  | .label _=>some .skip
  | .scope c=>g9 P md nt sF c
  |_=>none
def CZ (P:Program) (r:ResultVar):Option nP:=
  match r with
  | .tmp t=>some (.tmp t)
  | .cell a t=>do pure (.cell (<-mc P t) (<-dw P t) a)
def ua (P:Program) (f:Nat) (md:List (Nat×Nat)):Option xj:=
  match P.funcs[f]? with
  |some fn=>match fn.body with
    |some c=>do
      let b <-g9 P md fn.ntmps f c
      let r <-fn.results.toList.mapM (CZ P)
      if fn.params.size+fn.nfree<=fn.ntmps then pure {ntmps:=fn.ntmps,vq:=fn.params.size+fn.nfree,body:=b,res:=r}else none
    |none=>none
  |none=>none
def lr (P:Program) (f:Nat):Option xj:=ua P f []
theorem ab {P:Prop} (h:P:=by omega):P:=h
theorem bD {P:Prop} (h:P:=by(try dsimp only);omega):P:=h
structure Row where
 w:Bool
 sz:Nat
 rows:List (List AV)
abbrev Rows:=Id->Option Row
structure ax where
 get:Rows
 next:Nat
abbrev Env:=Nat->AV
def upd (env:Env):Option Nat->AV->Env
 |some d,v=>fun t=>if t=d then v else env t
 |none,_=>env
inductive Ex where
 |normal
 |exit (id:Nat)
 |ret
 deriving DecidableEq
def cu (env:Env):O->AV
 | .t n=>env n
 | .k c=>c.av
 | .ka cs=>.agg (cs.map K.av)
 | .f n=>.fn n []
def bI (g:Rows) (id:Id) (r:Row):Rows:=fun i=>if i=id then some r else g i
def bU (g:Rows) (id:Id):Rows:=fun i=>if i=id then none else g i
def fQ:List Nat->Nat->Rows->Rows
 |[],_,g=>g
 |h::t,n,g=>fun id=>if (h::t).contains id.site=true/\id.bZ=n then none else g id
def ro (g:Rows):Rows:=fun id=>(g id).map fun r=>{r with w:=false}
def part (agg:Bool) (n:Nat) (cs:List AV):Option AV:=
 if agg then(if n<=cs.length then some (.agg (cs.take n))else none)else cs.head?
def rowAt (g:Rows) (id:Id) (i:Nat):Option (List AV):=(g id).bind (·.rows[i]?)
def ld (g:Rows) (agg:Bool) (n:Nat):AV->Option AV
 | .ptr id i off=>(rowAt g id i).bind fun cs=>part agg n (cs.drop off)
 | .cH cs=>part agg n cs
 |_=>none
def dG:BinOp->IntKind->Int->Int->Option AV
 | .add,k,a,b=>some (.int k (k.wrap (a+b)))
 | .sub,k,a,b=>some (.int k (k.wrap (a-b)))
 | .mul,k,a,b=>some (.int k (k.wrap (a*b)))
 | .quo,k,a,b=>if b=0 then none else some (.int k (k.wrap (a.tdiv b)))
 | .rem,k,a,b=>if b=0 then none else some (.int k (a.tmod b))
 | .lss,_,a,b=>some (.bool (decide (a<b)))
 | .leq,_,a,b=>some (.bool (decide (a<=b)))
 | .gtr,_,a,b=>some (.bool (decide (b<a)))
 | .geq,_,a,b=>some (.bool (decide (b<=a)))
 | .and,k,a,b=>some (.int k (k.wrap (BitVec.ofInt k.bits a&&& BitVec.ofInt k.bits b).toNat))
 | .or,k,a,b=>some (.int k (k.wrap (BitVec.ofInt k.bits a|||BitVec.ofInt k.bits b).toNat))
 | .xor,k,a,b=>some (.int k (k.wrap (BitVec.ofInt k.bits a ^^^ BitVec.ofInt k.bits b).toNat))
 |_,_,_,_=>none
def ei (op:BinOp):AV->AV->Option AV
 | .int k a,.int k' b=>if k=k' then dG op k a b else none
 |_,_=>none
def il (left:Bool):AV->AV->Option AV
 | .int k a,.int _ b=>if b<0 then none else some (.int k (if left then k.wrap (a*2 ^ min b.toNat k.bits)else a.fdiv (2 ^ min b.toNat k.bits)))
 |_,_=>none
def eB:BinOp->ByteArray->ByteArray->Option AV
 | .add,a,b=>if a.size+b.size<=9223372036854775807 then some (.str (a++b))else none
 | .lss,a,b=>some (.bool (Op.bytesLess a.toList b.toList))
 | .leq,a,b=>some (.bool (Op.bytesLess a.toList b.toList||(a.toList==b.toList)))
 | .gtr,a,b=>some (.bool !(Op.bytesLess a.toList b.toList||(a.toList==b.toList)))
 | .geq,a,b=>some (.bool !(Op.bytesLess a.toList b.toList))
 |_,_,_=>none
def da (op:BinOp):AV->AV->Option AV
 | .str a,.str b=>eB op a b
 |_,_=>none
def fW:TS->AV->AV->Option Bool
 | .tI,.int k a,.int k' b=>if k=k' then some (decide (a=b))else none
 | .tB,.bool a,.bool b=>some (a==b)
 | .tS,.str a,.str b=>some (decide (a=b))
 |_,_,_=>none
def eZ:List TS->List AV->List AV->Option Bool
 |[],[],[]=>some true
 |t::ts,a::r,b::s=>match fW t a b,eZ ts r s with
  |some x,some y=>some (x&&y)
  |_,_=>none
 |_,_,_=>none
def dq (neg b:Bool):Bool:=if neg then !b else b
def cY:AV->Option Bool
 | .bE=>some true
 | .own _ _ _=>some false
 | .sl (_::_)=>some false
 |_=>none
def cX:AV->Option Bool
 | .iH=>some true
 | .fn _ _=>some false
 |_=>none
def G8:AV->Option Bool
 | .fZ=>some true
 | .ptr .. | .cH _=>some false
 |_=>none
def ep (IA:Bool) (x:AV):Option Bool:=if IA then cX x else cY x
def dU (len:Nat):Option AV->Option Nat
 |none=>some len
 |some (.int _ n)=>if 0<=n/\n<=len then some n.toNat else none
 |_=>none
def dV (h:Nat):Option AV->Option Nat
 |none=>some 0
 |some (.int _ n)=>if 0<=n/\n<=h then some n.toNat else none
 |_=>none
def bP (g:Rows) (sz:Nat) (x:AV) (lo hi:Option AV):Option AV:=
 match x with
 | .bE=>(dU 0 hi).bind fun h=>(dV h lo).map fun _=>.bE
 | .sl rows=>(dU rows.length hi).bind fun h=>(dV h lo).bind fun l=>if ∀cs∈rows,cs.length=sz then some (.sl ((rows.drop l).take (h-l)))else none
 | .own id off len=>(g id).bind fun r=>(dU len hi).bind fun h=>(dV h lo).bind fun l=>if r.sz=sz then some (.own id (off+l) (h-l))else none
 |_=>none
def bd (x:AV) (lo hi:Option AV):Option AV:=
 match x with
 | .str s=>(dU s.size hi).bind fun h=>(dV h lo).map fun l=>.str (s.extract l h)
 |_=>none
def BJ (off:Nat):AV->Option AV
 | .ptr id i o=>some (.ptr id i (o+off))
 | .cH cs=>some (.cH (cs.drop off))
 |_=>none
def bL (g:Rows) (sz:Nat):AV->AV->Option AV
 | .sl rows,.int _ n=>if 0<=n then(rows[n.toNat]?).bind fun cs=>if cs.length=sz then some (.cH cs)else none else none
 | .own id off len,.int _ n=>if 0<=n/\n<len then(g id).bind fun r=>if r.sz=sz then some (.ptr id (off+n.toNat) 0)else none else none
 |_,_=>none
def cQ (len sz:Nat):AV->AV->Option AV
 | .ptr id r off,.int _ n=>if 0<=n/\n<len then some (.ptr id r (off+n.toNat*sz))else none
 | .cH cs,.int _ n=>if 0<=n/\n<len then some (.cH (cs.drop (n.toNat*sz)))else none
 |_,_=>none
def cT:AV->AV->Option AV
 | .str s,.int _ n=>if 0<=n then(s[n.toNat]?).map fun b=>.int .u8 b.toNat else none
 |_,_=>none
def cR (agg:Bool) (len n:Nat):AV->AV->Option AV
 | .agg cs,.int _ i=>if 0<=i/\i<len then part agg n (cs.drop (i.toNat*n))else none
 |_,_=>none
def ek:AV->Option Nat
 | .bE=>some 0
 | .sl rows=>some rows.length
 | .own _ _ n=>some n
 |_=>none
def er:AV->Option AV
 | .bool b=>some (.bool !b)
 |_=>none
def eo:AV->Option AV
 | .int k n=>some (.int k (k.wrap (0-n)))
 |_=>none
def cP (k:IntKind):AV->Option AV
 | .int _ n=>some (.int k (k.wrap n))
 |_=>none
def bS:AV->Option AV
 | .str s=>some (.str s)
 |_=>none
def cZ:AV->AV->AV->Option AV
 | .bool c,a,b=>some (if c then a else b)
 |_,_,_=>none
def ej:AV->Option AV
 | .ptr id i o=>some (.ptr id i o)
 | .cH cs=>some (.cH cs)
 |_=>none
def bK (agg:Bool) (off n:Nat):AV->Option AV
 | .agg cs=>if off+n<=cs.length then part agg n (cs.drop off)else none
 |_=>none
def aL (i:Nat):AV->Option AV
 | .gU vs=>vs[i]?
 |_=>none
def cV:AV->Option AV
 | .str s=>some (.int .i64 s.size)
 |_=>none
def rowOf (sz:Nat) (v:AV):Option (List AV):=if v.cells.length=sz/\v.cells.all AV.cell then some v.cells else none
def cJ (v:AV):Option (List AV):=if v.cells.all AV.cell then some v.cells else none
def rowsOf (sz:Nat):List AV->Option (List (List AV))
 |[]=>some []
 |v::r=>(rowOf sz v).bind fun c=>(rowsOf sz r).map fun cs=>c::cs
def cw:List AV->List (Nat×Nat×AV)->Option (List AV)
 |cs,[]=>some cs
 |cs,(off,n,v)::r=>if v.cells.length=n/\off+n<=cs.length/\v.cells.all AV.cell then cw (cs.take off++v.cells++cs.drop (off+n)) r else none
def dI:Nat:=16777216
def ik (zero:List K):AV->AV->Option (Nat×Row)
 | .int _ l,.int _ c=>if 0<=l/\l<=c/\c<=dI then some (l.toNat,⟨true,zero.length,List.replicate l.toNat (zero.map K.av)⟩)else none
 |_,_=>none
def nW:Nat:=1000000000
def MK.ks (m:MK):Nat:=m.ts.length
def MK.Bn (m:MK):Nat:=nW+m.ks
def AV.isAgg:AV->Bool
 | .agg _=>true
 |_=>false
def gG (m:MK) (key:List AV):List (List AV)->Nat->Option (Option Nat)
 |[],_=>some none
 |r::l,i=>match eZ m.ts key (r.take m.ks)with
  |some true=>some (some i)
  |some false=>gG m key l (i+1)
  |none=>none
def dY (g:Rows) (m:MK):AV->Option (Id×Row)
 | .map id m'=>if m'=m then(g id).map fun r=>(id,r)else none
 |_=>none
def gw (m:MK) (k:AV) (rows:List (List AV)):Option (Option Nat):=if k.isAgg=m.ka/\k.cells.length=m.ks/\k.cells.all AV.cell then gG m k.cells rows 0 else none
def eh (m:MK) (z:K) (rows:List (List AV)):Option Nat->Option AV
 |some i=>(rows[i]?).bind fun cs=>cs[m.ks]?
 |none=>some z.av
def bB (q:MQ) (vs:List AV) (g:Rows) (id:Id):Option (AV×Option Row):=
 match q,vs with
 | .new m,[]=>some (.map id m,some ⟨true,m.Bn,[]⟩)
 | .look m ok z,[x,k]=>(dY g m x).bind fun p=>(gw m k p.2.rows).bind fun fi=>(eh m z p.2.rows fi).map fun v=>(if ok then .gU [v,.bool fi.isSome]else v,none)
 | .len m,[x]=>(dY g m x).map fun p=>(.int .i64 p.2.rows.length,none)
 |_,_=>none
def pc:Nat:=2000000000
def cW:AV->Option Nat
 | .int _ n=>if 0<=n/\n<=1048576 then some n.toNat else none
 |_=>none
def cU (g:Rows):AV->Option AV
 | .qf id=>(g id).map fun r=>.int .i64 r.rows.length
 |_=>none
def ev (g:Rows):AV->AV->Option Rows
 | .qf id,v=>(g id).bind fun r=>if r.w/\pc+r.rows.length<r.sz/\v.cell then some (bI g id {r with rows:=r.rows++[[v]]})else none
 |_,_=>none
def eu (g:Rows):AV->Option (AV×Rows)
 | .qf id=>(g id).bind fun r=>match r.rows with
  |[v]::rest=>if r.w then some (v,bI g id {r with rows:=rest})else none
  |_=>none
 |_=>none
def dR (rows:List (List AV)) (e:List AV):Option Nat->List (List AV)
 |some i=>rows.set i e
 |none=>rows++[e]
def ea (rows:List (List AV)):Option Nat->List (List AV)
 |some i=>rows.eraseIdx i
 |none=>rows
def bH (q:MW) (vs:List AV) (g:Rows):Option Rows:=
 match q,vs with
 | .set m,[x,k,v]=>(dY g m x).bind fun p=>(gw m k p.2.rows).bind fun fi=>if p.2.w/\v.cell/\v.isAgg=false then some (bI g p.1 {p.2 with rows:=dR p.2.rows (k.cells++[v]) fi})else none
 | .del m,[x,k]=>(dY g m x).bind fun p=>(gw m k p.2.rows).bind fun fi=>if p.2.w then some (bI g p.1 {p.2 with rows:=ea p.2.rows fi})else none
 |_,_=>none
def eF (o:fB) (ρ:O->AV) (g:Rows) (id:Id):Option (AV×Option Row):=
 match o with
 | .cF x=>some (ρ x,none)
 | .pick c a b=>(cZ (ρ c) (ρ a) (ρ b)).map (·,none)
 | .new zero=>some (.ptr id 0 0,some ⟨true,zero.length,[zero.map K.av]⟩)
 | .box x=>(cJ (ρ x)).map fun cs=>(.ptr id 0 0,some ⟨true,cs.length,[cs]⟩)
 | .build zero parts=>(cw (zero.map K.av) (parts.map fun(o,n,x)=>(o,n,ρ x))).map fun cs=>(.agg cs,none)
 | .lq sz len parts=>(rowsOf sz (parts.map ρ)).map fun rs=>(.own id 0 len,some ⟨true,sz,rs⟩)
 | .load agg n a=>(ld g agg n (ρ a)).map (·,none)
 | .xX x=>(ej (ρ x)).map (·,none)
 | .bin op _ x y=>(ei op (ρ x) (ρ y)).map (·,none)
 | .sh left x y=>(il left (ρ x) (ρ y)).map (·,none)
 | .HP op x y=>(da op (ρ x) (ρ y)).map (·,none)
 | .Kv neg t x y=>(fW t (ρ x) (ρ y)).map fun b=>(.bool (dq neg b),none)
 | .OT neg ts x y=>match ρ x,ρ y with
  | .agg xs,.agg ys=>(eZ ts xs ys).map fun b=>(.bool (dq neg b),none)
  |_,_=>none
 | .Nb neg IA x=>(ep IA (ρ x)).map fun b=>(.bool (dq neg b),none)
 | .OU neg x=>(G8 (ρ x)).map fun b=>(.bool (dq neg b),none)
 | .not x=>(er (ρ x)).map (·,none)
 | .neg x=>(eo (ρ x)).map (·,none)
 | .conv k x=>(cP k (ρ x)).map (·,none)
 | .BV x=>(bS (ρ x)).map (·,none)
 | .slice sz x lo hi=>(bP g sz (ρ x) (lo.map ρ) (hi.map ρ)).map (·,none)
 | .w6 x lo hi=>(bd (ρ x) (lo.map ρ) (hi.map ρ)).map (·,none)
 | .fq off x=>(BJ off (ρ x)).map (·,none)
 | .field agg off n x=>(bK agg off n (ρ x)).map (·,none)
 | .dm sz x i=>(bL g sz (ρ x) (ρ i)).map (·,none)
 | .Iv len sz x i=>(cQ len sz (ρ x) (ρ i)).map (·,none)
 | .Ix x i=>(cT (ρ x) (ρ i)).map (·,none)
 | .fx agg len n x i=>(cR agg len n (ρ x) (ρ i)).map (·,none)
 | .extract i x=>(aL i (ρ x)).map (·,none)
 | .len x=>(ek (ρ x)).map fun(n:Nat)=>(AV.int .i64 (n:Int),none)
 | .IF x=>(cV (ρ x)).map (·,none)
 | .IM f cq=>some (.fn f (cq.map ρ),none)
 | .IN f first=>some (.tU f (first.map ρ),none)
 | .jg zero l c=>(ik zero (ρ l) (ρ c)).map fun(n,r)=>(.own id 0 n,some r)
 | .mq q xs=>bB q (xs.map ρ) g id
 | .Gq x=>(cW (ρ x)).map fun n=>(.qf id,some ⟨true,pc+n,[]⟩)
 | .Gd x=>(cU g (ρ x)).map (·,none)
 |_=>none
def br (g:Rows):AV->Option (List (List AV))
 | .bE=>some []
 | .sl rows=>some rows
 | .own id off len=>(g id).bind fun r=>if off+len<=r.rows.length then some ((r.rows.drop off).take len)else none
 |_=>none
def cI (cs:List AV) (off:Nat) (xs:List AV):List AV:=cs.take off++xs++cs.drop (off+xs.length)
def bQ (g:Rows) (n:Nat) (v:AV):AV->Option Rows
 | .ptr id i off=>(g id).bind fun r=>(r.rows[i]?).bind fun cs=>
  if r.w/\v.cells.length=n/\v.cells.all AV.cell/\off+n<=cs.length then some (bI g id {r with rows:=r.rows.set i (cI cs off v.cells)})else none
 |_=>none
def aZ (g:Rows) (id:Id) (sz:Nat) (x:AV) (ys:List (List AV)):Option (AV×Rows):=
 match x with
 | .bE=>match ys with
  |[]=>some (.bE,g)
  |y::r=>if (y::r).length<=dI/\(y::r).all (fun c=>c.length==sz&&c.all AV.cell)then some (.own id 0 (y::r).length,bI g id ⟨true,sz,y::r⟩)else none
 | .own i 0 len=>(g i).bind fun r=>
  if r.w/\r.sz=sz/\len=r.rows.length/\len+ys.length<=dI/\ys.all (fun c=>c.length==sz&&c.all AV.cell)then some (.own id 0 (len+ys.length),bI (bU g i) id ⟨true,sz,r.rows++ys⟩)else none
 |_=>none
def CE (g:Rows) (sz:Nat) (x:AV) (ys:List (List AV)):Option (AV×Rows):=
 match x with
 | .own i off len=>(g i).bind fun r=>
  if r.w/\r.sz=sz/\off+len<=r.rows.length/\ys.all (fun c=>c.length==sz&&c.all AV.cell)then
   some (.int .i64 (min ys.length len:Nat),bI g i {r with rows:=r.rows.take off++ys.take (min ys.length len)++r.rows.drop (off+min ys.length len)})else none
 |_=>none
def bJ (g:Rows) (zero:List K) (x:AV):Option Rows:=
 match x with
 | .bE=>some g
 | .own i off len=>(g i).bind fun r=>
  if r.w/\r.sz=zero.length/\off+len<=r.rows.length then
   some (bI g i {r with rows:=r.rows.take off++List.replicate len (zero.map K.av)++r.rows.drop (off+len)})else none
 |_=>none
def fR (o:fB) (ρ:O->AV) (g:Rows) (id:Id):Option (AV×Rows):=
 match o with
 | .store n a x=>(bQ g n (ρ x) (ρ a)).map fun g'=>(.undef,g')
 | .append sz x y=>(br g (ρ y)).bind fun ys=>aZ g id sz (ρ x) ys
 | .copy sz x y=>(br g (ρ y)).bind fun ys=>CE g sz (ρ x) ys
 | .clear zero x=>(bJ g zero (ρ x)).map fun g'=>(.undef,g')
 | .mw q xs=>(bH q (xs.map ρ) g).map fun g'=>(.undef,g')
 |_=>none
def su:AV->List AV->Option (Nat×List AV)
 | .fn f cq,l=>some (f,l++cq)
 | .tU f first,l=>some (f,first++l)
 |_,_=>none
abbrev eW:=Nat->List AV->ax->(AV->ax->Prop)->Prop
mutual
def fz (g:Rows):Nat->AV->Option AV
 |0,_=>none
 |n+1,a=>match a with
  | .own id off len=>match g id with
   |some r=>if r.w then(if off+len<=r.rows.length then(dy g n ((r.rows.drop off).take len)).map AV.sl else none)else none
   |none=>none
  | .ptr id i off=>match g id with
   |some r=>if r.w then(match r.rows[i]? with
    |some cs=>(bY g n (cs.drop off)).map AV.cH
    |none=>none)else none
   |none=>none
  | .agg cs=>(bY g n cs).map AV.agg
  | .gU vs=>(bY g n vs).map AV.gU
  | .fn f cq=>if cq.all AV.cell then(bY g n cq).map (AV.fn f)else none
  | .map _ _| .tU _ _| .qf _=>none
  |v=>some v
 termination_by n _=>(n,0)
def bY (g:Rows):Nat->List AV->Option (List AV)
 |n,[]=>some []
 |n,a::r=>match fz g n a with
  |some b=>(bY g n r).map (b::·)
  |none=>none
 termination_by n l=>(n,l.length+1)
def dy (g:Rows):Nat->List (List AV)->Option (List (List AV))
 |n,[]=>some []
 |n,c::r=>match bY g n c with
  |some b=>(dy g n r).map (b::·)
  |none=>none
 termination_by n l=>(n,(l.map (fun c=>c.length+2)).sum+1)
 decreasing_by all_goals simp_wf;try omega
end
mutual
def fh (g:Rows):Nat->AV->Option AV
 |0,_=>none
 |n+1,a=>match a with
  | .own id off len=>match g id with
   |some r=>if r.w then(if off+len<=r.rows.length then(gh g n ((r.rows.drop off).take len)).map AV.sl else none)else none
   |none=>none
  | .ptr id i off=>match g id with
   |some r=>if r.w then(match r.rows[i]? with
    |some cs=>(du g n (cs.drop off)).map AV.cH
    |none=>none)else none
   |none=>none
  | .agg cs=>(du g n cs).map AV.agg
  | .gU vs=>(du g n vs).map AV.gU
  | .int k m=>some (.int k m)
  | .bool b=>some (.bool b)
  | .str s=>some (.str s)
  | .bE=>some .bE
  | .fZ=>some .fZ
  | .iH=>some .iH
  | .iR=>some .iR
  |_=>none
 termination_by n _=>(n,0)
def du (g:Rows):Nat->List AV->Option (List AV)
 |n,[]=>some []
 |n,a::r=>match fh g n a with
  |some b=>(du g n r).map (b::·)
  |none=>none
 termination_by n l=>(n,l.length+1)
def gh (g:Rows):Nat->List (List AV)->Option (List (List AV))
 |n,[]=>some []
 |n,c::r=>match du g n c with
  |some b=>(gh g n r).map (b::·)
  |none=>none
 termination_by n l=>(n,(l.map (fun c=>c.length+2)).sum+1)
 decreasing_by all_goals simp_wf;try omega
end
def dC (g:Rows):Rows:=fun id=>(g id).map fun r=>{r with w:=true}
def PC (X:eW) (f:Nat) (args:List AV) (σ:ax) (K:AV->Prop):Prop:=
 X f args ⟨ro σ.get,σ.next⟩ fun r σ'=>∃r',fz σ'.get 6 r=some r'/\K r'
def PCv (X:eW) (f:Nat) (args:List AV) (σ:ax) (K:AV->Prop):Prop:=
 ∃eJ,bY (dC σ.get) 6 args=some eJ/\X f eJ ⟨fun _=>none,σ.next⟩ fun r σ'=>∃r',fh σ'.get 6 r=some r'/\K r'
def gO (X:eW) (f:Nat) (args:List AV) (σ:ax) (K:AV->Prop):Prop:=PC X f args σ K∨PCv X f args σ K
def aH (g:Option (Nat×Bool)) (env:Env):Bool:=
 match g with
 |none=>true
 |some (t,b)=>match env t with
  | .bool c=>c==b
  |_=>false
def AV.plain:AV->Bool
 | .int .. | .bool _| .str _| .bE| .fZ| .iH| .iR=>true
 |_=>false
def CM (X:eW) (f:Nat) (args:List AV) (σ:ax) (sz:Nat) (rows:List (List AV)):Prop:=
 (∀c∈rows,∀a∈c,a.plain=true)/\∃eJ,bY (dC σ.get) 6 args=some eJ/\X f eJ ⟨fun _=>none,σ.next⟩ fun r σ'=>∃id,r=.own id 0 rows.length/\σ'.get id=some ⟨true,sz,rows⟩
def cE (X:eW) (draw:Bool) (hid:List Nat) (site:Nat) (f:Nat) (args:List AV) (σ:ax) (next:AV->ax->Prop):Prop:=
 (∃r,gO X f args ⟨fQ hid σ.next σ.get,σ.next+1⟩ (fun r'=>r'=r)/\next r σ)∨
 (draw=false/\X f args ⟨σ.get,σ.next+1⟩ next)∨
 (hid.contains site=true/\∃sz rows,CM X f args ⟨fQ hid σ.next σ.get,σ.next+1⟩ sz rows/\next (.own ⟨site,σ.next⟩ 0 rows.length) ⟨bI σ.get ⟨site,σ.next⟩ ⟨true,sz,rows⟩,σ.next⟩)
def fF (X:eW) (draw:Bool) (o:aW) (env:Env) (σ:ax) (next:AV->ax->Prop):Prop:=
 match o.op with
 | .call f args=>cE X draw o.hid o.site f (args.map (cu env)) σ next
 | .qN x args=>match cu env x with
  | .fn f cq=>cE X draw o.hid o.site f (args.map (cu env)++cq) σ next
  | .tU f first=>cE X draw o.hid o.site f (first++args.map (cu env)) σ next
  |_=>False
 | .store .. | .append .. | .copy .. | .clear .. | .mw .. =>match fR o.op (cu env) σ.get ⟨o.site,σ.next⟩with
  |some (v,g)=>next v ⟨g,σ.next⟩
  |none=>False
 |_=>match eF o.op (cu env) (fQ o.hid σ.next σ.get) ⟨o.site,σ.next⟩with
  |some (v,some r)=>next v ⟨bI σ.get ⟨o.site,σ.next⟩ r,σ.next⟩
  |some (v,none)=>next v σ
  |none=>False
def wpOps (X:eW) (draw:Bool):List aW->(Env->ax->Prop)->Env->ax->Prop
 |[],K,env,σ=>K env ⟨σ.get,σ.next+1⟩
 |o::r,K,env,σ=>
  if aH o.guard env then fF X draw o env σ fun v σ'=>wpOps X draw r K (upd env o.dst v) σ'
  else wpOps X draw r K (upd env o.dst .undef) σ
def cr:List aW->(Env->ax->Prop)->Env->ax->Prop
 |[],K,env,σ=>K env ⟨σ.get,σ.next+1⟩
 |o::r,K,env,σ=>o.guard=none/\match o.op with
  | .snd x y=>match ev σ.get (cu env x) (cu env y)with
   |some g=>cr r K (upd env o.dst .undef) ⟨g,σ.next⟩
   |none=>False
  | .LF x=>match eu σ.get (cu env x)with
   |some (v,g)=>cr r K (upd env o.dst v) ⟨g,σ.next⟩
   |none=>False
  |op=>match eF op (cu env) σ.get ⟨o.site,σ.next⟩with
   |some (v,none)=>cr r K (upd env o.dst v) σ
   |_=>False
def dz (next:Env->ax->Prop) (Q:Ex->Env->ax->Prop):Ex->Env->ax->Prop
 | .normal=>next
 |e=>Q e
def bl (id:Nat) (Q:Ex->Env->ax->Prop):Ex->Env->ax->Prop
 | .exit jP=>if jP=id then Q .normal else Q (.exit jP)
 |e=>Q e
def Ct (W:(Ex->Env->ax->Prop)->Env->ax->Prop) (Q:Ex->Env->ax->Prop):Nat->Env->ax->Prop
 |0=>fun _ _=>False
 |n+1=>W (dz (Ct W Q n) Q)
def IG (t s:Nat) (y:O) (env:Env) (n:Nat):Prop:=(∃len,env t=.own ⟨s,n⟩ 0 len)/\∀id o l,cu env y=.own id o l->id.bZ≠n
def dO (X:eW):VC->(Ex->Env->ax->Prop)->Env->ax->Prop
 | .skip,Q=>Q .normal
 | .eb draw ops,Q=>wpOps X draw ops (Q .normal)
 | .seq a b,Q=>dO X a (dz (dO X b Q) Q)
 | .cond c x y,Q=>fun env σ=>match cu env c with
  | .bool b=>if b then dO X x Q env σ else dO X y Q env σ
  |_=>False
 | .block id c,Q=>dO X c (bl id Q)
 | .loop c,Q=>fun env σ=>∃n,Ct (dO X c) Q n env σ
 | .exit id,Q=>Q (.exit id)
 | .ret,Q=>Q .ret
 | .one o c,Q=>fun env σ=>if aH o.guard env then fF X false o env σ fun v σ'=>dO X c Q (upd env o.dst v) σ' else dO X c Q (upd env o.dst .undef) σ
 | .both a b,Q=>fun env σ=>dO X a Q env σ/\dO X b Q env σ
 | .loc t s y c,Q=>fun env σ=>IG t s y env σ.next/\dO X c Q env σ
 | .Kp ops,Q=>cr ops (Q .normal)
def gI (env:Env) (g:Rows):nP->Option AV
 | .tmp t=>some (env t)
 | .cell agg n t=>ld g agg n (env t)
def eR (env:Env) (g:Rows):List nP->Option (List AV)
 |[]=>some []
 |r::l=>(gI env g r).bind fun v=>(eR env g l).map (v::·)
def dJ:List AV->AV
 |[v]=>v
 |l=>.gU l
def cm (args:List AV):Env:=fun t=>args.getD t .undef
def kF (res:List nP) (K:AV->ax->Prop):Ex->Env->ax->Prop
 | .exit _,_,_=>False
 |_,env,σ=>∃vs,eR env σ.get res=some vs/\K (dJ vs) σ
inductive jk (P:Program) (w:World) (D:Nat->Prop):AV->Value->Prop
 |int (k n):jk P w D (.int k n) (.int k n)
 |bool (b):jk P w D (.bool b) (.bool b)
 |str (s):jk P w D (.str s) (.string s)
 |bE:jk P w D .bE (.slice none 0 0)
 |fZ:jk P w D .fZ (.pointer none)
 |iH:jk P w D .iH .nilFunc
 |zE (a c):c<=maxLen->jk P w D (.sl []) (.slice a 0 c)
 |sl (rows b o n c sz) (vs:Nat->Nat->Value):rows.length=n->n<=c->c<=maxLen->D b->(∀cs∈rows,cs.length=sz)->(∀cs∈rows,∀a∈cs,a.cell=true)->
   (∀i j,i<n->j<sz->w.cell? ⟨b,o+(i*sz+j),none⟩=some (vs i j))->
   (∀i j cs a,rows[i]? =some cs->cs[j]? =some a->jk P w D a (vs i j))->jk P w D (.sl rows) (.slice (some ⟨b,o,none⟩) n c)
 |cH (cs b o) (vs:Nat->Value):D b->(∀a∈cs,a.cell=true)->(∀j,j<cs.length->w.cell? ⟨b,o+j,none⟩=some (vs j))->
   (∀j a,cs[j]? =some a->jk P w D a (vs j))->jk P w D (.cH cs) (.pointer (some ⟨b,o,none⟩))
 |agg (cs) (vs:Array Value) (f:Nat->Value):vs.size=cs.length->(∀a∈cs,a.cell=true)->(∀j,j<cs.length->vs[j]? =some (f j))->(∀j a,cs[j]? =some a->jk P w D a (f j))->jk P w D (.agg cs) (.agg vs)
 |fn (f cq) (vs:Array Value) (g:Nat->Value):e8 P f=true->vs.size=cq.length->(∀j,j<cq.length->vs[j]? =some (g j))->(∀j a,cq[j]? =some a->jk P w D a (g j))->jk P w D (.fn f cq) (.func (.func f) #[] vs)
 |iR:jk P w D .iR (.map none)
inductive BK where
 |map (m:MK)
 |chan (cap:Nat)
structure qG where
 b:Nat
 sz:Nat
 C:Nat
 k:Option BK
abbrev Names:=Id->Option qG
inductive cv (P:Program) (w:World) (D:Nat->Prop) (ι:Names):AV->Value->Prop
 |ew (a v):jk P w D a v->cv P w D ι a v
 |own (id off len o cap B):ι id=some B->B.k=none->len<=cap->(cap=0∨o=off*B.sz)->(off+cap)*B.sz<=B.C->cap<=maxLen->cv P w D ι (.own id off len) (.slice (some ⟨B.b,o,none⟩) len cap)
 |ptr (id i off B):ι id=some B->B.k=none->cv P w D ι (.ptr id i off) (.pointer (some ⟨B.b,i*B.sz+off,none⟩))
 |agg (cs) (vs:Array Value) (f:Nat->Value):vs.size=cs.length->(∀a∈cs,a.cell=true)->(∀j,j<cs.length->vs[j]? =some (f j))->(∀j a,cs[j]? =some a->cv P w D ι a (f j))->cv P w D ι (.agg cs) (.agg vs)
 |gU (cs) (vs:Array Value) (f:Nat->Value):vs.size=cs.length->(∀j,j<cs.length->vs[j]? =some (f j))->(∀j a,cs[j]? =some a->cv P w D ι a (f j))->cv P w D ι (.gU cs) (.tuple vs)
 |fn (f cq) (vs:Array Value) (g:Nat->Value):e8 P f=true->vs.size=cq.length->(∀j,j<cq.length->vs[j]? =some (g j))->(∀j a,cq[j]? =some a->cv P w D ι a (g j))->cv P w D ι (.fn f cq) (.func (.func f) #[] vs)
 |qf (id c B):ι id=some B->B.k=some (.chan c)->cv P w D ι (.qf id) (.chan (some B.b))
 |map (id m B):ι id=some B->B.k=some (.map m)->cv P w D ι (.map id m) (.map (some B.b))
 |tU (f cq) (vs:Array Value) (g:Nat->Value):e8 P f=true->vs.size=cq.length->(∀j,j<cq.length->vs[j]? =some (g j))->(∀j a,cq[j]? =some a->cv P w D ι a (g j))->cv P w D ι (.tU f cq) (.func (.func f) vs #[])
variable {P:Program} {w w':World} {D D':Nat->Prop} {ι ι':Names}
theorem jk.frame (hD:∀b,D b->w'.heap[b]? =w.heap[b]?) (hs:∀b,D b->D' b) {a:AV} {v:Value} (h:jk P w D a v):jk P w' D' a v:=by
 induction h with
 |int k n=>exact .int k n
 |bool b=>exact .bool b
 |str s=>exact .str s
 |bE=>exact .bE
 |fZ=>exact .fZ
 |iH=>exact .iH
 |iR=>exact .iR
 |zE a c h=>exact .zE a c h
 |sl rows b o n c sz vs h1 h2 h3 h4 h5 h5' h6 _ ih=>exact .sl rows b o n c sz vs h1 h2 h3 (hs b h4) h5 h5' (fun i j hi hj=>(World.cell?_of_block (hD b h4)).trans (h6 i j hi hj)) ih
 |cH cs b o vs h1 Nm h2 _ ih=>exact .cH cs b o vs (hs b h1) Nm (fun j hj=>(World.cell?_of_block (hD b h1)).trans (h2 j hj)) ih
 |agg cs vs f h1 h2 h3 _ ih=>exact .agg cs vs f h1 h2 h3 ih
 |fn f cq vs g h1 h2 h3 _ ih=>exact .fn f cq vs g h1 h2 h3 ih
theorem cv.frame (hD:∀b,D b->w'.heap[b]? =w.heap[b]?) (hs:∀b,D b->D' b) (hι:∀id B,ι id=some B->ι' id=some B) {a:AV} {v:Value} (h:cv P w D ι a v):cv P w' D' ι' a v:=by
 induction h with
 |ew a v h=>exact .ew a v (h.frame hD hs)
 |map id m B h1 h2=>exact .map id m B (hι _ _ h1) h2
 |qf id c B h1 h2=>exact .qf id c B (hι _ _ h1) h2
 |own id off len o cap B h1 h2 h3 h4 h5 h6=>exact .own id off len o cap B (hι _ _ h1) h2 h3 h4 h5 h6
 |ptr id i off B h1 h2=>exact .ptr id i off B (hι _ _ h1) h2
 |agg cs vs f h1 h2 h3 _ ih=>exact .agg cs vs f h1 h2 h3 ih
 |gU cs vs f h1 h2 _ ih=>exact .gU cs vs f h1 h2 ih
 |fn f cq vs g h1 h2 h3 _ ih=>exact .fn f cq vs g h1 h2 h3 ih
 |tU f cq vs g h1 h2 h3 _ ih=>exact .tU f cq vs g h1 h2 h3 ih
theorem cv.undef:cv P w D ι .undef Go.undef:=.gU [] #[] (fun _=>Go.undef) rfl (fun j hj=>by simp at hj) (fun j a h=>by simp at h)
theorem tk (c:K):cv P w D ι c.av c.val:=by
 cases c with
 |int k n=>exact .ew _ _ (.int k n)
 |bool b=>exact .ew _ _ (.bool b)
 |str l=>exact .ew _ _ (.str _)
 |bE=>exact .ew _ _ .bE
 |fZ=>exact .ew _ _ .fZ
 |iH=>exact .ew _ _ .iH
 |iR=>exact .ew _ _ .iR
theorem K.ll (c:K):c.av.cell=true:=by cases c<;>rfl
theorem wG {v:Value} {c:K} (h:DK v=some c):v=c.val:=by
 unfold DK at h
 split at h<;>simp at h<;>subst h<;>rfl
theorem cv.xW {a:AV} {v:Value} (h:cv P w D ι a v) (hc:a.cell=true):v.cells= #[v]/\(∀vs,v≠.agg vs)/\(∀vs,v≠.tuple vs):=by
 cases h with
 |ew a v h=>cases h<;>simp_all [AV.cell,Value.cells]
 |own=>simp[Value.cells]
 |map=>simp[Value.cells]
 |qf=>simp[Value.cells]
 |ptr=>simp[Value.cells]
 |agg=>simp[AV.cell]at hc
 |gU=>simp[AV.cell]at hc
 |fn=>simp[Value.cells]
 |tU=>simp[Value.cells]
theorem cv.cells {a:AV} {v:Value} (h:cv P w D ι a v) (ha:a.cells.all AV.cell=true):v.cells.size=a.cells.length/\∃f:Nat->Value,(∀j,j<a.cells.length->v.cells[j]? =some (f j))/\∀j x,a.cells[j]? =some x->cv P w D ι x (f j):=by
 have one:∀(a:AV) (v:Value),a.cell=true->a.cells=[a]->cv P w D ι a v->v.cells.size=a.cells.length/\∃f:Nat->Value,(∀j,j<a.cells.length->v.cells[j]? =some (f j))/\∀j x,a.cells[j]? =some x->cv P w D ι x (f j):=by
  intro a v hc dh h
  obtain⟨h1,_,_⟩:=h.xW hc
  rw[h1,dh]
  refine⟨rfl,fun _=>v,fun j hj=>?_,fun j x hx=>?_⟩
  ·have:j=0:=by simp at hj;omega
   subst this;rfl
  ·cases j with
   |zero=>simp at hx;subst hx;exact h
   |succ j=>simp at hx
 cases h with
 |ew a v h=>
  cases h with
  |agg cs vs f h1 h2 h3 h4=>exact⟨h1,f,h3,fun j x hx=>.ew _ _ (h4 j x hx)⟩
  |_=>exact one _ _ rfl rfl (.ew _ _ (by constructor<;>assumption))
 |own id off len o cap B h1 h2 h3 h4 h5 h6=>exact one _ _ rfl rfl (.own id off len o cap B h1 h2 h3 h4 h5 h6)
 |ptr id i off B h1 h2=>exact one _ _ rfl rfl (.ptr id i off B h1 h2)
 |map id m B h1 h2=>exact one _ _ rfl rfl (.map id m B h1 h2)
 |qf id c B h1 h2=>exact one _ _ rfl rfl (.qf id c B h1 h2)
 |agg cs vs f h1 h2 h3 h4=>exact⟨h1,f,h3,h4⟩
 |gU cs vs f h1 h2 h3=>simp[AV.cells,AV.cell]at ha
 |fn f cq vs g h1 h2 h3 h4=>exact one _ _ rfl rfl (.fn f cq vs g h1 h2 h3 h4)
 |tU f cq vs g h1 h2 h3 h4=>exact one _ _ rfl rfl (.tU f cq vs g h1 h2 h3 h4)
structure kj (P:Program) (w:World) (D:Nat->Prop) (ι:Names) (B:qG) (r:Row):Prop where
 sz:B.sz=r.sz
 CX:∃cells T,w.heap[B.b]? =some (.cells cells T (0,0))/\cells.size=B.C
 fits:r.rows.length*r.sz<=B.C
 len:∀cs∈r.rows,cs.length=r.sz
 flat:∀cs∈r.rows,∀a∈cs,a.cell=true
 at_:∀i j cs a,r.rows[i]? =some cs->cs[j]? =some a->∃v,w.cell? ⟨B.b,i*r.sz+j,none⟩=some v/\cv P w D ι a v
def J9 (es:Array MapEntry) (clock:Nat):Prop:=(∀x∈es.toList,x.born<clock)/\(es.toList.map (·.born)).Nodup
def Jo (P:Program) (w:World) (D:Nat->Prop) (ι:Names) (B:qG) (m:MK) (r:Row):Prop:=
 ∃(es:Array MapEntry) (clock:Nat),w.heap[B.b]? =some (.map es clock)/\es.size=r.rows.length/\((∀cs∈r.rows,cs.length=m.ks+1)/\J9 es clock)/\
  ∀(i:Nat) (cs:List AV),r.rows[i]? =some cs->∃(e:MapEntry) (kv vv:AV),es[i]? =some e/\part m.ka m.ks cs=some kv/\cs[m.ks]? =some vv/\cv P w D ι kv e.key/\cv P w D ι vv e.val
def EW (P:Program) (w:World) (D:Nat->Prop) (ι:Names) (B:qG) (c:Nat) (r:Row):Prop:=
 ∃(buf:Array Value) (s q:Nat),w.heap[B.b]? =some (.chan c buf false s q false)/\buf.size=r.rows.length/\
  ∀(i:Nat) (cs:List AV),r.rows[i]? =some cs->∃(a:AV) (u:Value),cs=[a]/\buf[i]? =some u/\cv P w D ι a u
structure gN (P:Program) (w:World) (D:Nat->Prop) (ι:Names) (B:qG) (r:Row):Prop where
 sz:B.sz=r.sz
 flat:∀cs∈r.rows,∀a∈cs,a.cell=true
 row:B.k=none->kj P w D ι B r
 map:∀m,B.k=some (.map m)->r.sz=m.Bn/\Jo P w D ι B m r
 chan:∀c,B.k=some (.chan c)->r.sz=pc+c/\EW P w D ι B c r
theorem kj.obj {B:qG} {r:Row} (R:kj P w D ι B r) (h:B.k=none):gN P w D ι B r:=⟨R.sz,R.flat,fun _=>R,fun m hm=>(by rw[h]at hm;cases hm),fun m hm=>by rw[h]at hm;cases hm⟩
theorem gN.flag {B:qG} {r:Row} (R:gN P w D ι B r) (b:Bool):gN P w D ι B {r with w:=b}:=⟨R.sz,R.flat,fun h=>⟨R.sz,(R.row h).CX,(R.row h).fits,(R.row h).len,R.flat,(R.row h).at_⟩,R.map,R.chan⟩
theorem gN.IQ {B:qG} {r:Row} (R:gN P w D ι B r) {c:Array Value} {T:TypeId} {z:Nat×Nat} (h:w.heap[B.b]? =some (.cells c T z)):B.k=none:=by
 cases hk:B.k with
 |none=>rfl
 |some m=>
  cases m with
  |map m=>obtain⟨_,es,c,h3,_⟩:=R.map m hk;rw[h]at h3;cases h3
  |chan c=>obtain⟨_,buf,s,q,h3,_⟩:=R.chan c hk;rw[h]at h3;cases h3
theorem gN.lt {B:qG} {r:Row} (R:gN P w D ι B r):B.b<w.heap.size:=by
 cases h:B.k with
 |none=>
  obtain⟨c,T,h3,_⟩:=(R.row h).CX
  exact(Array.getElem?_eq_some_iff.1 h3).1
 |some m=>
  cases m with
  |map m=>obtain⟨_,es,c,h3,_⟩:=R.map m h;exact(Array.getElem?_eq_some_iff.1 h3).1
  |chan c=>obtain⟨_,buf,s,q,h3,_⟩:=R.chan c h;exact(Array.getElem?_eq_some_iff.1 h3).1
structure fG (P:Program) (hs:Nat) (D:Nat->Prop) (ι:Names) (g:Rows) (w:World):Prop where
 lo:hs<=w.heap.size
 dead:∀b,D b->b<w.heap.size
 row:∀id r,g id=some r->∃B,ι id=some B/\gN P w D ι B r/\(r.w=true->hs<=B.b)/\(r.w=true->¬D B.b)
 inj:∀id jP r r' B B',g id=some r->g jP=some r'->r.w=true->ι id=some B->ι jP=some B'->B.b=B'.b->id=jP
def Used (ι:Names) (n:Nat) (U:Nat->Prop):Prop:=∀id,ι id≠none->id.bZ<n∨(id.bZ=n/\U id.site)
structure Step (hs:Nat) (D:Nat->Prop) (ι:Names) (w:World) (D':Nat->Prop) (ι':Names) (w':World):Prop where
 below:Below hs w w'
 sZ:∀b,D b->w'.heap[b]? =w.heap[b]?
 dead:∀b,D b->D' b
 names:∀id B,ι id=some B->ι' id=some B
 new:∀b,D' b->D b∨hs<=b
theorem Step.refl (hs:Nat) (D:Nat->Prop) (ι:Names) (w:World):Step hs D ι w D ι w:=⟨Below.refl _ _,fun _ _=>rfl,fun _ h=>h,fun _ _ h=>h,fun _ h=>.inl h⟩
theorem Step.trans {hs:Nat} {D D' D'':Nat->Prop} {ι ι' OQ:Names} {w w' HB:World} (h:Step hs D ι w D' ι' w') (k:Step hs D' ι' w' D'' OQ HB):Step hs D ι w D'' OQ HB:=
 ⟨h.below.trans k.below,fun b hb=>(k.sZ b (h.dead b hb)).trans (h.sZ b hb),fun b hb=>k.dead b (h.dead b hb),fun id B hB=>k.names id B (h.names id B hB),fun b hb=>by
  rcases k.new b hb with hb|hb
  ·exact h.new b hb
  ·exact .inr hb⟩
theorem Step.rep {hs:Nat} {D D':Nat->Prop} {ι ι':Names} {w w':World} (h:Step hs D ι w D' ι' w') {a:AV} {v:Value} (hr:cv P w D ι a v):cv P w' D' ι' a v:=hr.frame h.sZ h.dead h.names
theorem db {k n} {v:Value} (h:cv P w D ι (.int k n) v):v=.int k n:=by
 cases h with
 |ew _ _ h=>cases h;rfl
theorem eH {b} {v:Value} (h:cv P w D ι (.bool b) v):v=.bool b:=by
 cases h with
 |ew _ _ h=>cases h;rfl
theorem eU {s} {v:Value} (h:cv P w D ι (.str s) v):v=.string s:=by
 cases h with
 |ew _ _ h=>cases h;rfl
theorem js {v:Value} (h:cv P w D ι .bE v):v=.slice none 0 0:=by
 cases h with
 |ew _ _ h=>cases h;rfl
theorem tn {v:Value} (h:cv P w D ι .iH v):v=.nilFunc:=by
 cases h with
 |ew _ _ h=>cases h;rfl
theorem gT {cs} {v:Value} (h:cv P w D ι (.agg cs) v):∃(vs:Array Value) (f:Nat->Value),v=.agg vs/\vs.size=cs.length/\(∀a∈cs,a.cell=true)/\(∀j,j<cs.length->vs[j]? =some (f j))/\∀j a,cs[j]? =some a->cv P w D ι a (f j):=by
 cases h with
 |ew _ _ h=>
  cases h with
  |agg cs vs f h1 h2 h3 h4=>exact⟨vs,f,rfl,h1,h2,h3,fun j a h=>.ew _ _ (h4 j a h)⟩
 |agg cs vs f h1 h2 h3 h4=>exact⟨vs,f,rfl,h1,h2,h3,h4⟩
theorem r9 {cs} {v:Value} (h:cv P w D ι (.gU cs) v):∃(vs:Array Value) (f:Nat->Value),v=.tuple vs/\vs.size=cs.length/\(∀j,j<cs.length->vs[j]? =some (f j))/\∀j a,cs[j]? =some a->cv P w D ι a (f j):=by
 cases h with
 |ew _ _ h=>cases h
 |gU cs vs f h1 h2 h3=>exact⟨vs,f,rfl,h1,h2,h3⟩
theorem Bj {f cq} {v:Value} (h:cv P w D ι (.fn f cq) v):∃(vs:Array Value) (g:Nat->Value),v=.func (.func f) #[] vs/\e8 P f=true/\vs.size=cq.length/\(∀j,j<cq.length->vs[j]? =some (g j))/\∀j a,cq[j]? =some a->cv P w D ι a (g j):=by
 cases h with
 |ew _ _ h=>
  cases h with
  |fn f cq vs g h1 h2 h3 h4=>exact⟨vs,g,rfl,h1,h2,h3,fun j a h=>.ew _ _ (h4 j a h)⟩
 |fn f cq vs g h1 h2 h3 h4=>exact⟨vs,g,rfl,h1,h2,h3,h4⟩
theorem GG {v:Value} (h:cv P w D ι .fZ v):v=.pointer none:=by
 cases h with
 |ew _ _ h=>cases h;rfl
theorem zf {v:Value} (h:cv P w D ι .iR v):v=.map none:=by
 cases h with
 |ew _ _ h=>cases h;rfl
theorem I6 {f cq} {v:Value} (h:cv P w D ι (.tU f cq) v):∃(vs:Array Value) (g:Nat->Value),v=.func (.func f) vs #[]/\e8 P f=true/\vs.size=cq.length/\(∀j,j<cq.length->vs[j]? =some (g j))/\∀j a,cq[j]? =some a->cv P w D ι a (g j):=by
 cases h with
 |ew _ _ h=>cases h
 |tU f cq vs g h1 h2 h3 h4=>exact⟨vs,g,rfl,h1,h2,h3,h4⟩
theorem iI {id off len} {v:Value} (h:cv P w D ι (.own id off len) v):∃o cap B,v=.slice (some ⟨B.b,o,none⟩) len cap/\ι id=some B/\len<=cap/\(cap=0∨o=off*B.sz)/\(off+cap)*B.sz<=B.C/\cap<=maxLen/\B.k=none:=by
 cases h with
 |ew _ _ h=>cases h
 |own id off len o cap B h1 h2 h3 h4 h5 h6=>exact⟨o,cap,B,rfl,h1,h3,h4,h5,h6,h2⟩
theorem iJ {id i off} {v:Value} (h:cv P w D ι (.ptr id i off) v):∃B,v=.pointer (some ⟨B.b,i*B.sz+off,none⟩)/\ι id=some B/\B.k=none:=by
 cases h with
 |ew _ _ h=>cases h
 |ptr id i off B h1 h2=>exact⟨B,rfl,h1,h2⟩
theorem I3 {id} {v:Value} (h:cv P w D ι (.qf id) v):∃B c,v=.chan (some B.b)/\ι id=some B/\B.k=some (.chan c):=by
 cases h with
 |ew _ _ h=>cases h
 |qf id c B h1 h2=>exact⟨B,c,rfl,h1,h2⟩
theorem I5 {id m} {v:Value} (h:cv P w D ι (.map id m) v):∃B,v=.map (some B.b)/\ι id=some B/\B.k=some (.map m):=by
 cases h with
 |ew _ _ h=>cases h
 |map id m B h1 h2=>exact⟨B,rfl,h1,h2⟩
theorem jX {cs} {v:Value} (h:cv P w D ι (.cH cs) v):∃b o,∃vs:Nat->Value,v=.pointer (some ⟨b,o,none⟩)/\D b/\(∀a∈cs,a.cell=true)/\(∀j,j<cs.length->w.cell? ⟨b,o+j,none⟩=some (vs j))/\∀j a,cs[j]? =some a->jk P w D a (vs j):=by
 cases h with
 |ew _ _ h=>
  cases h with
  |cH cs b o vs h1 h2 h3 h4=>exact⟨b,o,vs,rfl,h1,h2,h3,h4⟩
theorem tp {rows} {v:Value} (h:cv P w D ι (.sl rows) v):∃A c,v=.slice A rows.length c/\rows.length<=c/\c<=maxLen/\
  (rows=[]∨∃b o sz,∃vs:Nat->Nat->Value,A=some ⟨b,o,none⟩/\D b/\(∀cs∈rows,cs.length=sz)/\(∀cs∈rows,∀a∈cs,a.cell=true)/\
   (∀i j,i<rows.length->j<sz->w.cell? ⟨b,o+(i*sz+j),none⟩=some (vs i j))/\∀i j cs a,rows[i]? =some cs->cs[j]? =some a->jk P w D a (vs i j)):=by
 cases h with
 |ew _ _ h=>
  cases h with
  |zE a c h=>exact⟨a,c,rfl,Nat.zero_le _,h,.inl rfl⟩
  |sl rows b o n c sz vs h1 h2 h3 h4 h5 h5' h6 h7=>subst h1;exact⟨_,c,rfl,h2,h3,.inr ⟨b,o,sz,vs,rfl,h4,h5,h5',h6,h7⟩⟩
inductive dZ:AV->Prop
 |int (k n):dZ (.int k n)
 |bool (b):dZ (.bool b)
 |str (s):dZ (.str s)
 |bE:dZ .bE
 |fZ:dZ .fZ
 |iH:dZ .iH
 |sl (rows):rows.length<=maxLen->(∀cs∈rows,∀a∈cs,dZ a)->dZ (.sl rows)
 |own (id off len):dZ (.own id off len)
 |ptr (id i off):dZ (.ptr id i off)
 |cH (cs):(∀a∈cs,dZ a)->dZ (.cH cs)
 |agg (cs):(∀a∈cs,dZ a)->dZ (.agg cs)
 |gU (cs):(∀a∈cs,dZ a)->dZ (.gU cs)
 |fn (f cq):(∀a∈cq,dZ a)->dZ (.fn f cq)
 |map (id m):dZ (.map id m)
 |qf (id):dZ (.qf id)
 |iR:dZ .iR
 |tU (f cq):(∀a∈cq,dZ a)->dZ (.tU f cq)
theorem dZ.len {rows:List (List AV)} (h:dZ (.sl rows)):rows.length<=9223372036854775807:=by
 cases h with
 |sl _ h _=>unfold maxLen at h;omega
theorem dZ.HG {cs:List AV} (h:dZ (.agg cs)) {a:AV} (ha:a∈cs):dZ a:=by
 cases h with
 |agg _ h=>exact h a ha
theorem dZ.ve {cs:List AV} (h:dZ (.cH cs)) {a:AV} (ha:a∈cs):dZ a:=by
 cases h with
 |cH _ h=>exact h a ha
theorem m7 {l:List AV} {p:AV->Prop} (h:∀(j:Nat) (a:AV),l[j]? =some a->p a):∀a∈l,p a:=fun a ha=>by
 obtain⟨j,hj,rfl⟩:=List.getElem_of_mem ha
 exact h j _ (List.getElem?_eq_getElem hj)
theorem jk.Gc {a:AV} {v:Value} (h:jk P w D a v):dZ a:=by
 induction h with
 |int k n=>exact .int k n
 |bool b=>exact .bool b
 |str s=>exact .str s
 |bE=>exact .bE
 |fZ=>exact .fZ
 |iH=>exact .iH
 |iR=>exact .iR
 |zE a c h=>exact .sl [] (Nat.zero_le _) (fun cs h=>by cases h)
 |sl rows b o n c sz vs h1 h2 h3 h4 h5 h5' h6 _ ih=>
  exact .sl rows ab fun cs dh a ha=>by
   obtain⟨i,hi,rfl⟩:=List.getElem_of_mem dh
   obtain⟨j,hj,rfl⟩:=List.getElem_of_mem ha
   exact ih i j _ _ (List.getElem?_eq_getElem hi) (List.getElem?_eq_getElem hj)
 |cH cs b o vs h1 Nm h2 _ ih=>exact .cH cs (m7 ih)
 |agg cs vs f h1 h2 h3 _ ih=>exact .agg cs (m7 ih)
 |fn f cq vs g h1 h2 h3 _ ih=>exact .fn f cq (m7 ih)
theorem cv.Gc {a:AV} {v:Value} (h:cv P w D ι a v):dZ a:=by
 induction h with
 |ew a v h=>exact h.Gc
 |own id off len o cap B=>exact .own _ _ _
 |ptr id i off B=>exact .ptr _ _ _
 |map id m B=>exact .map _ _
 |qf id c B=>exact .qf _
 |agg cs vs f h1 h2 h3 _ ih=>exact .agg cs (m7 ih)
 |gU cs vs f h1 h2 _ ih=>exact .gU cs (m7 ih)
 |fn f cq vs g h1 h2 h3 _ ih=>exact .fn f cq (m7 ih)
 |tU f cq vs g h1 h2 h3 _ ih=>exact .tU f cq (m7 ih)
end Go.Proofs.YtihgaadadaekmaaGreatDoor.V

namespace Go.Proofs.YtihgaadadaekmaaGreatDoor.V
open Go.RowKit
variable {P:Program} {w w':World} {D D':Nat->Prop} {ι ι':Names}
def bt (P:Program) (w:World) (D:Nat->Prop) (ι:Names) (env:Env) (a:Act):Prop:=∀t,cv P w D ι (env t) (a.tmps.getD t undef)
theorem pA {vs:List Value} {cs:List K} (h:vs.mapM DK=some cs):cs.length=vs.length/\∀(j:Nat) (c:K),cs[j]? =some c->vs[j]? =some c.val:=by
 induction vs generalizing cs with
 |nil=>simp at h;subst h;simp
 |cons v r ih=>
  simp only[List.mapM_cons,Option.bind_eq_bind,Option.bind_eq_some_iff]at h
  obtain⟨c,hc,n8,dh,h⟩:=h
  simp at h;subst h
  obtain⟨h1,h2⟩:=ih dh
  refine⟨by simp[h1],fun j d hd=>?_⟩
  cases j with
  |zero=>simp at hd ⊢;subst hd;exact wG hc
  |succ j=>simp at hd ⊢;exact h2 j d hd
theorem Q2 {vs:List Value} {cs:List K} (h:vs.mapM DK=some cs):cv P w D ι (.agg (cs.map K.av)) (.agg vs.toArray):=by
 obtain⟨h1,h2⟩:=pA h
 refine .agg _ _ (fun j=>vs.getD j undef) (by simp[h1]) (fun a ha=>?_) (fun j hj=>?_) (fun j a ha=>?_)
 ·obtain⟨c,_,rfl⟩:=List.mem_map.1 ha;exact c.ll
 ·simp at hj;simp[List.getElem?_eq_getElem (show j<vs.length by omega)]
 ·simp only[List.getElem?_map,Option.map_eq_some_iff]at ha
  obtain⟨c,hc,rfl⟩:=ha
  rw[List.getD_eq_getElem?_getD,h2 j c hc];exact tk c
theorem cC {env:Env} {a:Act} {x:Operand} {y:O} (E:bt P w D ι env a) (h:cO P x=some y):cv P w D ι (cu env y) (a.eval x):=by
 unfold cO at h
 split at h
 ·simp at h;subst h;exact E _
 ·simp only[Option.map_eq_some_iff]at h
  obtain⟨cs,dh,rfl⟩:=h
  have:=Q2 (P:=P) (w:=w) (D:=D) (ι:=ι) dh
  simpa[Act.eval,cu]using this
 ·simp only[Option.map_eq_some_iff]at h
  obtain⟨c,hc,rfl⟩:=h
  simp only[Act.eval,cu]
  rw[wG hc];exact tk c
 ·simp at h
 ·split at h
  ·rename_i hc
   simp at h;subst h
   simp only[Act.eval,cu]
   exact .fn _ _ _ (fun _=>undef) hc rfl (fun j hj=>by simp at hj) (fun j a h=>by simp at h)
  ·simp at h
def mD (P:Program) (a:Act) (o:Oper) (w:World) (D:Nat->Prop) (ι:Names) (v:AV):Prop:=∃u,(execOp a.eval o).run P w=.ok (.value u) w/\cv P w D ι v u
section
variable {g:Rows} {hs:Nat} {env:Env} {a:Act} {o:Oper} {id:Id} {v:AV}
theorem J4 {x:Operand} {y:O} (E:bt P w D ι env a) (ho:o.op=.move x∨o.op=.assign x) (hx:cO P x=some y):mD P a o w D ι (cu env y):=by
 refine⟨a.eval x,?_,cC E hx⟩
 rcases ho with h|h<;>simp[execOp,h,go_sem]
theorem Md {c x y:Operand} {c' x' y':O} (E:bt P w D ι env a) (ho:o.op=.pick c x y) (hc:cO P c=some c') (hx:cO P x=some x') (hy:cO P y=some y') (hv:cZ (cu env c') (cu env x') (cu env y')=some v):mD P a o w D ι v:=by
 unfold cZ at hv
 split at hv
 ·rename_i b hb
  simp at hv;subst hv
  have h1:=eH (hb▸cC E hc)
  refine⟨if b then a.eval x else a.eval y,by simp only[execOp,ho,h1,asBool];rfl,?_⟩
  cases b
  ·exact cC E hy
  ·exact cC E hx
 ·simp at hv
theorem OG {op:BinOp} {x y:Operand} {x' y':O} {t yt:TypeId} (E:bt P w D ι env a) (ho:o.op=.binOp op t x y yt) (he:op≠.eql) (hn:op≠.neq) (hx:cO P x=some x') (hy:cO P y=some y') (hv:ei op (cu env x') (cu env y')=some v):mD P a o w D ι v:=by
 unfold ei at hv
 split at hv
 ·rename_i k n k' m hb qk
  split at hv
  ·rename_i hk
   subst hk
   have h1:=db (hb▸cC E hx)
   have h2:=db (qk▸cC E hy)
   have key:∀u,(binOp op t (.int k n) (.int k m)).run P w=.ok u w->(execOp a.eval o).run P w=.ok (.value u) w:=fun u hu=>by
    have e0:eqGuard op t x y (.int k n) (.int k m)=pure ():=by unfold eqGuard;cases op<;>rfl
    simp only[execOp,ho,h1,h2,e0]
    simp[go_sem,hu]
   cases op<;>simp only[dG]at hv<;>(try(simp at hv;done))<;>(try split at hv)<;>(try(simp at hv;done))<;>simp only[Option.some.injEq]at hv<;>subst hv<;>
    (refine⟨_,key _ (by simp only[binOp,ne_eq,not_true_eq_false,if_false,Op.intArith,Op.intDiv,Op.intBits,Op.intCmp, *];rfl),?_⟩)<;>
    first
     |exact .ew _ _ (.int _ _)
     |exact .ew _ _ (.bool _)
  ·simp at hv
 ·simp at hv
theorem LY {op:BinOp} {x y:Operand} {x' y':O} {t yt:TypeId} (E:bt P w D ι env a) (ho:o.op=.binOp op t x y yt) (he:op≠.eql) (hn:op≠.neq) (hx:cO P x=some x') (hy:cO P y=some y') (hv:da op (cu env x') (cu env y')=some v):mD P a o w D ι v:=by
 unfold da at hv
 split at hv
 ·rename_i n m hb qk
  have h1:=eU (hb▸cC E hx)
  have h2:=eU (qk▸cC E hy)
  cases op<;>simp only[eB]at hv<;>(try(simp at hv;done))
  case add=>
   split at hv
   ·rename_i hl
    simp only[Option.some.injEq]at hv;subst hv
    exact⟨_,by simp only[execOp,ho,h1,h2];simp[eqGuard,binOp,go_sem];exact hl,.ew _ _ (.str _)⟩
   ·simp at hv
  all_goals
   simp only[Option.some.injEq]at hv;subst hv
   exact⟨_,by simp only[execOp,ho,h1,h2];simp[eqGuard,binOp,Op.stringOp,go_sem],.ew _ _ (.bool _)⟩
 ·simp at hv
theorem CC (n m:ByteArray):(n.toList==m.toList)=decide (n=m):=by
 rw[ByteArray.toList_eq,ByteArray.toList_eq]
 by_cases h:n=m
 ·subst h;simp
 ·have:n.data.toList≠m.data.toList:=fun he=>h (ByteArray.ext (Array.ext' he))
  rw[decide_eq_false h];exact beq_eq_false_iff_ne.2 this
theorem nG {t:TypeId} (h:eL P t=some .tB):P.underlying t=some .bool:=by unfold eL at h;split at h<;>simp_all
theorem nH {t:TypeId} (h:eL P t=some .tI):∃k,P.underlying t=some (.int k):=by unfold eL at h;split at h<;>simp_all
theorem nI {t:TypeId} (h:eL P t=some .tS):P.underlying t=some .string:=by unfold eL at h;split at h<;>simp_all
theorem pI {d:Nat} {t:TypeId} {s:TS} {x y:AV} {u u':Value} {b:Bool} (hx:cv P w D ι x u) (hy:cv P w D ι y u') (hv:fW s x y=some b) (ht:eL P t=some s):(Op.equalIn (d+1) t u u').run P w=.ok b w:=by
 unfold fW at hv
 split at hv
 ·rename_i k n k' m
  split at hv
  ·rename_i hk
   subst hk
   simp at hv;subst hv
   obtain⟨q,hq⟩:=nH ht
   rw[db hx,db hy,run_equalIn_int _ _ _ _ _ _ _ hq];rfl
  ·simp at hv
 ·simp at hv;subst hv
  rw[eH hx,eH hy,run_equalIn_bool' _ _ _ _ _ (nG ht)]
 ·simp at hv;subst hv
  rw[eU hx,eU hy,run_equalIn_string _ _ _ _ _ (nI ht),CC]
 ·simp at hv
def eP (P:Program) (w:World) (D:Nat->Prop) (ι:Names) (xs:List AV) (vs:Array Value):Prop:=vs.size=xs.length/\∀(j:Nat) (a:AV),xs[j]? =some a->∃u,vs[j]? =some u/\cv P w D ι a u
theorem eP.part {xs:List AV} {vs:Array Value} (h:eP P w D ι xs vs) (off n:Nat) (hn:off+n<=xs.length):eP P w D ι ((xs.drop off).take n) (vs.extract off (off+n)):=by
 refine⟨by simp[h.1];omega,fun j a ha=>?_⟩
 rw[List.getElem?_take]at ha
 split at ha
 ·rename_i hj
  rw[List.getElem?_drop]at ha
  obtain⟨u,h1,h2⟩:=h.2 _ _ ha
  refine⟨u,?_,h2⟩
  rw[Array.getElem?_extract]
  rw[if_pos (by rw[h.1];omega),h1]
 ·simp at ha
theorem pd:∀{ts:List TS} {xs ys:List AV} {b:Bool},eZ ts xs ys=some b->xs.length=ts.length/\ys.length=ts.length
 |[],[],[],_,_=>⟨rfl,rfl⟩
 |t::ts,x::xs,y::ys,b,h=>by
  unfold eZ at h
  split at h
  ·rename_i c d h1 h2
   have:=pd h2
   simp[this.1,this.2]
  ·simp at h
 |[],[],_::_,_,h=>by simp[eZ]at h
 |[],_::_,_,_,h=>by simp[eZ]at h
 |_::_,[],_,_,h=>by simp[eZ]at h
 |_::_,_::_,[],_,h=>by simp[eZ]at h
theorem B4:∀{ts us:List TS} {xs ys:List AV} {b:Bool},eZ (ts++us) xs ys=some b->∃c d,eZ ts (xs.take ts.length) (ys.take ts.length)=some c/\eZ us (xs.drop ts.length) (ys.drop ts.length)=some d/\b=(c&&d)
 |[],us,xs,ys,b,h=>⟨true,b,by simp[eZ],by simpa using h,by simp⟩
 |t::ts,us,x::xs,y::ys,b,h=>by
  simp only[List.cons_append]at h
  unfold eZ at h
  split at h
  ·rename_i c d h1 h2
   obtain⟨c',d',h3,h4,rfl⟩:=B4 h2
   simp at h;subst h
   exact⟨c&&c',d',by simp[eZ,h1,h3],by simpa using h4,by simp[Bool.and_assoc]⟩
  ·simp at h
 |t::ts,us,[],ys,b,h=>by simp[eZ]at h
 |t::ts,us,x::xs,[],b,h=>by simp[eZ]at h
theorem k6 {t:TypeId} {vs:Array Value} {off:Nat} {u:Value} (ha:mc P t=some false) (hu:vs[off]? =some u):(Go.part t vs off).run P w=.ok u w:=by
 unfold mc at ha
 have hi:(isAgg t).run P w=.ok false w:=by
  split at ha<;>simp at ha
  rename_i d h1 h2 hd
  simp only[isAgg,Sem.run_bind,run_underlying hd,Result.andThen_ok]
  cases d<;>simp_all
 simp[Go.part,hi,hu]
theorem qw {t:TypeId} {b:Bool} (ha:mc P t=some b):(isAgg t).run P w=.ok b w:=by
 unfold mc at ha
 split at ha<;>simp at ha<;>subst ha<;>rename_i hd<;>simp only[isAgg,Sem.run_bind,run_underlying hd,Result.andThen_ok]<;>(try simp)
theorem run_sizeOf {t:TypeId} {n:Nat} (h:dw P t=some n):(sizeOf t).run P w=.ok n w:=by
 unfold dw at h
 simp only[Option.map_eq_some_iff]at h
 obtain⟨i,hi,rfl⟩:=h
 simp[sizeOf,typeInfo,hi]
theorem nF {t:TypeId} {vs:Array Value} {off n:Nat} (ha:mc P t=some true) (hn:dw P t=some n):(Go.part t vs off).run P w=.ok (.agg (vs.extract off (off+n))) w:=by
 simp[Go.part,qw ha,run_sizeOf hn]
theorem FB (d off:Nat):dN P (d+1) off []=some []:=rfl
theorem uS (d off:Nat) (f:Field) (r:List Field):dN P (d+1) off (f::r)=(if f.offset=off/\f.name≠ "_" then
   match eL P f.type with
   |some t=>if mc P f.type=some false then(dN P (d+1) (off+1) r).map (t::·)else none
   |none=>match P.underlying f.type with
    |some (.struct fs)=>if !P.stoodInHeld f.type then match dN P d 0 fs.toList with
     |some ts=>if dw P f.type=some ts.length/\ts≠[]then(dN P (d+1) (off+ts.length) r).map (ts++·)else none
     |none=>none else none
    |_=>none
  else none):=rfl
theorem pH:∀(d:Nat) (fs:List Field) (off:Nat) (ts:List TS),dN P d off fs=some ts->∀(N:Nat) (_:d<=N) (xs ys:List AV) (vs us:Array Value) (b:Bool),eP P w D ι xs vs->eP P w D ι ys us->
  eZ ts ((xs.drop off).take ts.length) ((ys.drop off).take ts.length)=some b->(Op.eqFields (N+1) vs us fs).run P w=.ok b w:=by
 intro d
 induction d with
 |zero=>
  intro fs off ts hf N _ xs ys vs us b _ _ he
  cases fs with
  |nil=>simp[dN]at hf;subst hf;simp[eZ]at he;subst he;simp[Op.eqFields]
  |cons f r=>simp[dN]at hf
 |succ d ihd=>
  intro fs
  induction fs with
  |nil=>
   intro off ts hf N _ xs ys vs us b _ _ he
   rw[FB]at hf;simp at hf;subst hf;simp[eZ]at he;subst he;simp[Op.eqFields]
  |cons f r ih=>
   intro off ts hf N hN xs ys vs us b hx hy he
   rw[uS]at hf
   split at hf
   ·rename_i hcond
    obtain⟨ho,gF⟩:=hcond
    split at hf
    ·rename_i s hs
     split at hf
     ·rename_i rZ
      simp only[Option.map_eq_some_iff]at hf
      obtain⟨J2,hr,rfl⟩:=hf
      obtain⟨l1,l2⟩:=pd he
      simp only[List.length_cons,List.length_take,List.length_drop]at l1 l2
      have EO:off<xs.length:=ab
      have hyo:off<ys.length:=ab
      rw[List.drop_eq_getElem_cons EO,List.drop_eq_getElem_cons hyo,List.length_cons,List.take_succ_cons,List.take_succ_cons]at he
      unfold eZ at he
      split at he
      ·rename_i c d' h1 h2
       simp at he;subst he
       obtain⟨u,hu,ru⟩:=hx.2 off _ (List.getElem?_eq_getElem EO)
       obtain⟨u',Ck,ru'⟩:=hy.2 off _ (List.getElem?_eq_getElem hyo)
       have:=ih (off+1) J2 hr N hN xs ys vs us d' hx hy h2
       simp only[Op.eqFields,if_pos gF,Sem.run_bind,ho,k6 rZ hu,k6 rZ Ck,Result.andThen_ok,pI ru ru' h1 hs,Sem.run_ite]
       cases c<;>simp[this]
      ·simp at he
     ·simp at hf
    ·split at hf
     ·rename_i fs' ph
      split at hf
      ·rename_i dS
       split at hf
       ·rename_i ts1 hts1
        split at hf
        ·rename_i eT
         simp only[Option.map_eq_some_iff]at hf
         obtain⟨J2,hr,rfl⟩:=hf
         obtain⟨c,d',h1,h2,rfl⟩:=B4 he
         obtain⟨l1,l2⟩:=pd he
         simp only[List.length_append,List.length_take,List.length_drop]at l1 l2
         have rZ:mc P f.type=some true:=by simp[mc,ph]
         have kC:0<ts1.length:=List.length_pos_iff.2 eT.2
         have Cm:off+ts1.length<=xs.length:=ab
         have hy1:off+ts1.length<=ys.length:=ab
         rw[List.drop_take,List.drop_drop,List.drop_take,List.drop_drop]at h2
         rw[List.take_take,List.take_take]at h1
         simp only[List.length_append]at h1 h2
         rw[Nat.min_eq_left ab]at h1
         have e2:ts1.length+J2.length-ts1.length=J2.length:=ab
         rw[e2]at h2
         have:=ih (off+ts1.length) J2 hr N hN xs ys vs us d' hx hy h2
         have fb:=ihd fs'.toList 0 ts1 hts1 (N-1) ab _ _ _ _ c (hx.part off ts1.length Cm) (hy.part off ts1.length hy1) (by simpa[List.take_take]using h1)
         have hN':N-1+1=N:=ab
         rw[hN']at fb
         have JC:P.fieldsOf f.type=fs':=by simp[Program.fieldsOf,ph]
         simp only[Op.eqFields,if_pos gF,Sem.run_bind,ho,nF rZ eT.1,Result.andThen_ok,Sem.run_ite]
         rw[run_equalIn_struct w N f.type _ _ (by rw[JC];exact ph) (by simpa using dS),JC,fb]
         cases c<;>simp[this]
        ·simp at hf
       ·simp at hf
      ·simp at hf
     ·simp at hf
   ·simp at hf
theorem OK {x y:Operand} {x' y':O} {t yt:TypeId} {neg:Bool} {s:TS} {b:Bool} (E:bt P w D ι env a) (ho:o.op=.binOp (if neg then .neq else .eql) t x y yt) (hs:eL P t=some s) (hx:cO P x=some x') (hy:cO P y=some y')
  (hv:fW s (cu env x') (cu env y')=some b):mD P a o w D ι (.bool (dq neg b)):=by
 have rx:=cC E hx
 have ry:=cC E hy
 refine⟨.bool (dq neg b),?_,.ew _ _ (.bool _)⟩
 have e0:(eqGuard (if neg then .neq else .eql) t x y (a.eval x) (a.eval y)).run P w=.ok () w:=by
  unfold fW at hv
  split at hv
  ·rename_i k n k' m h1 h2
   rw[h1]at rx;rw[h2]at ry
   rw[db rx,db ry];unfold eqGuard;cases neg<;>simp
  ·rename_i n m h1 h2
   rw[h1]at rx;rw[h2]at ry
   rw[eH rx,eH ry];unfold eqGuard;cases neg<;>simp
  ·rename_i n m h1 h2
   rw[h1]at rx;rw[h2]at ry
   rw[eU rx,eU ry];unfold eqGuard;cases neg<;>simp
  ·simp at hv
 have e1:(binOp (if neg then .neq else .eql) t (a.eval x) (a.eval y)).run P w=.ok (.bool (dq neg b)) w:=by
  have q:=pI (d:=9999) rx ry hv hs
  unfold fW at hv
  split at hv
  ·rename_i k n k' m h1 h2
   split at hv
   ·rename_i hk
    subst hk
    simp at hv;subst hv
    rw[h1]at rx;rw[h2]at ry
    rw[db rx,db ry]
    cases neg<;>simp only[binOp,ne_eq,not_true_eq_false,if_false,Op.intCmp,dq,if_true,Bool.false_eq_true]<;>simp[bne]<;>rfl
   ·simp at hv
  ·rename_i n m h1 h2
   rw[h1]at rx;rw[h2]at ry
   rw[eH rx,eH ry]at q ⊢
   cases neg<;>simp only[binOp,dq,if_true,Bool.false_eq_true,if_false,Sem.run_bind]<;>simp[Op.equal,Op.maxDepth,q]
  ·rename_i n m h1 h2
   simp at hv;subst hv
   rw[h1]at rx;rw[h2]at ry
   rw[eU rx,eU ry]
   cases neg<;>simp[binOp,Op.stringOp,dq,CC]
  ·simp at hv
 simp only[execOp,ho,Sem.run_bind,e0,e1,Result.andThen_ok,Sem.run_pure]
theorem OI {x y:Operand} {x' y':O} {t yt:TypeId} {neg:Bool} {ts:List TS} {fs:Array Field} {xs ys:List AV} {b:Bool} (E:bt P w D ι env a) (ho:o.op=.binOp (if neg then .neq else .eql) t x y yt) (ph:P.underlying t=some (.struct fs)) (dS:P.stoodInHeld t=false) (Ic:P.eqGuardType P.depth t=false)
  (uq:dN P 4 0 fs.toList=some ts) (hx:cO P x=some x') (hy:cO P y=some y') (h1:cu env x'=.agg xs) (h2:cu env y'=.agg ys)
  (hv:eZ ts xs ys=some b):mD P a o w D ι (.bool (dq neg b)):=by
 obtain⟨vs,f,rx,n1,_,f1,r1⟩:=gT (h1▸cC E hx)
 obtain⟨us,f',ry,n2,_,f2,r2⟩:=gT (h2▸cC E hy)
 refine⟨.bool (dq neg b),?_,.ew _ _ (.bool _)⟩
 obtain⟨l1,l2⟩:=pd hv
 have L:∀(xs:List AV) (vs:Array Value) (f:Nat->Value),vs.size=xs.length->(∀j,j<xs.length->vs[j]? =some (f j))->(∀j a,xs[j]? =some a->cv P w D ι a (f j))->eP P w D ι xs vs:=fun xs vs f h1 h2 h3=>
  ⟨h1,fun j a ha=>⟨f j,h2 j (List.getElem?_eq_some_iff.1 ha).1,h3 j a ha⟩⟩
 have q:=pH (w:=w) 4 fs.toList 0 ts uq 9998 ab xs ys vs us b (L _ _ _ n1 f1 r1) (L _ _ _ n2 f2 r2) (by simpa[List.take_of_length_le,l1,l2]using hv)
 have JC:P.fieldsOf t=fs:=by simp[Program.fieldsOf,ph]
 have q2:(Op.equal t (.agg vs) (.agg us)).run P w=.ok b w:=by
  unfold Op.equal
  rw[show Op.maxDepth=9999+1 from rfl,run_equalIn_struct w 9999 t _ _ (by rw[JC];exact ph) dS,JC,q]
 simp only[execOp,ho,Sem.run_bind,rx,ry,run_eqGuard_agg w _ _ _ _ _ _ Ic,Result.andThen_ok]
 cases neg<;>simp[binOp,q2,dq]
theorem L2 {x:Operand} {x':O} {t yt e:TypeId} {neg:Bool} {b:Bool} (E:bt P w D ι env a) (ho:o.op=.binOp (if neg then .neq else .eql) t x (.const (.slice none 0 0)) yt) (ht:P.underlying t=some (.slice e)) (hx:cO P x=some x')
  (hv:cY (cu env x')=some b):mD P a o w D ι (.bool (dq neg b)):=by
 have hr:=cC E hx
 have rx:∃A n c,a.eval x=.slice A n c/\b=A.isNone:=by
  unfold cY at hv
  split at hv<;>simp at hv<;>subst hv<;>rename_i hh
  ·rw[hh]at hr;exact⟨_,_,_,js hr,rfl⟩
  ·rw[hh]at hr;obtain⟨o,cap,B,h,_⟩:=iI hr
   exact⟨_,_,_,h,rfl⟩
  ·rw[hh]at hr
   obtain⟨A,c,h',_,_,h⟩:=tp hr
   rcases h with h|⟨b,o,sz,vs,rfl,_⟩
   ·simp at h
   ·exact⟨_,_,_,h',rfl⟩
 refine⟨.bool (dq neg b),?_,.ew _ _ (.bool _)⟩
 obtain⟨A,n,c,h,rfl⟩:=rx
 have hq:(Op.equal t (.slice A n c) (.slice none 0 0)).run P w=.ok A.isNone w:=by
  unfold Op.equal
  rw[show Op.maxDepth=9999+1 from rfl,Op.equalIn]
  simp only[Sem.run_bind,run_underlying ht,Result.andThen_ok]
  cases A<;>rfl
 have hc:a.eval (.const (.slice none 0 0))=.slice none 0 0:=rfl
 simp only[execOp,ho,h,hc]
 cases neg<;>simp only[Bool.false_eq_true,if_false,if_true,Bool.not_true,Bool.not_false,eqGuard,binOp,dq,Sem.run_bind,hq,Result.andThen_ok,Sem.run_pure]
theorem OJ {x:Operand} {x':O} {t yt e:TypeId} {neg:Bool} {b:Bool} (E:bt P w D ι env a) (ho:o.op=.binOp (if neg then .neq else .eql) t x (.const (.pointer none)) yt) (ht:P.underlying t=some (.pointer e)) (hx:cO P x=some x')
  (hv:G8 (cu env x')=some b):mD P a o w D ι (.bool (dq neg b)):=by
 have hr:=cC E hx
 have rx:∃A,a.eval x=.pointer A/\b=A.isNone:=by
  unfold G8 at hv
  split at hv<;>simp at hv<;>subst hv<;>rename_i hh
  ·rw[hh]at hr;exact⟨_,GG hr,rfl⟩
  ·rw[hh]at hr;obtain⟨B,h,_⟩:=iJ hr
   exact⟨_,h,rfl⟩
  ·rw[hh]at hr;obtain⟨_,_,_,h,_⟩:=jX hr
   exact⟨_,h,rfl⟩
 refine⟨.bool (dq neg b),?_,.ew _ _ (.bool _)⟩
 obtain⟨A,h,rfl⟩:=rx
 have hq:(Op.equal t (.pointer A) (.pointer none)).run P w=.ok A.isNone w:=by
  unfold Op.equal
  rw[show Op.maxDepth=9999+1 from rfl,Op.equalIn]
  simp only[Sem.run_bind,run_underlying ht,Result.andThen_ok]
  cases A<;>rfl
 have hc:a.eval (.const (.pointer none))=.pointer none:=rfl
 simp only[execOp,ho,h,hc]
 cases neg<;>simp only[Bool.false_eq_true,if_false,if_true,Bool.not_true,Bool.not_false,eqGuard,binOp,dq,Sem.run_bind,hq,Result.andThen_ok,Sem.run_pure]
theorem L1 {x:Operand} {x':O} {t yt:TypeId} {p r:Array TypeId} {va:Bool} {neg:Bool} {b:Bool} (E:bt P w D ι env a) (ho:o.op=.binOp (if neg then .neq else .eql) t x (.const .nilFunc) yt) (ht:P.underlying t=some (.func p r va)) (hx:cO P x=some x')
  (hv:cX (cu env x')=some b):mD P a o w D ι (.bool (dq neg b)):=by
 have hr:=cC E hx
 have rx:a.eval x=.nilFunc/\b=true∨∃f c,a.eval x=.func f #[] c/\b=false:=by
  unfold cX at hv
  split at hv<;>simp at hv<;>subst hv<;>rename_i hh
  ·rw[hh]at hr;exact .inl ⟨tn hr,rfl⟩
  ·rw[hh]at hr;obtain⟨vs,g,h,_⟩:=Bj hr
   exact .inr ⟨_,_,h,rfl⟩
 refine⟨.bool (dq neg b),?_,.ew _ _ (.bool _)⟩
 have hc:a.eval (.const .nilFunc)=.nilFunc:=rfl
 rcases rx with⟨h,rfl⟩|⟨f,c,h,rfl⟩
 ·have hq:(Op.equal t .nilFunc .nilFunc).run P w=.ok true w:=by
   unfold Op.equal
   rw[show Op.maxDepth=9999+1 from rfl,Op.equalIn]
   simp only[Sem.run_bind,run_underlying ht,Result.andThen_ok]
   rfl
  simp only[execOp,ho,h,hc]
  cases neg<;>simp only[Bool.false_eq_true,if_false,if_true,Bool.not_true,Bool.not_false,eqGuard,binOp,dq,Sem.run_bind,hq,Result.andThen_ok,Sem.run_pure]
 ·have hq:(Op.equal t (.func f #[] c) .nilFunc).run P w=.ok false w:=by
   unfold Op.equal
   rw[show Op.maxDepth=9999+1 from rfl,Op.equalIn]
   simp only[Sem.run_bind,run_underlying ht,Result.andThen_ok]
   rfl
  simp only[execOp,ho,h,hc]
  cases neg<;>simp only[Bool.false_eq_true,if_false,if_true,Bool.not_true,Bool.not_false,eqGuard,binOp,dq,Sem.run_bind,hq,Result.andThen_ok,Sem.run_pure]
theorem ON {x:Operand} {x':O} {t:TypeId} (E:bt P w D ι env a) (ho:o.op=.unOp .not t x) (hx:cO P x=some x') (hv:er (cu env x')=some v):mD P a o w D ι v:=by
 have hr:=cC E hx
 unfold er at hv
 split at hv
 ·rename_i b hb
  simp at hv;subst hv
  rw[hb]at hr
  exact⟨_,by simp only[execOp,ho,eH hr];rfl,.ew _ _ (.bool _)⟩
 ·simp at hv
theorem OM {x:Operand} {x':O} {t:TypeId} (E:bt P w D ι env a) (ho:o.op=.unOp .neg t x) (hx:cO P x=some x') (hv:eo (cu env x')=some v):mD P a o w D ι v:=by
 have hr:=cC E hx
 unfold eo at hv
 split at hv
 ·rename_i k n hb
  simp at hv;subst hv
  rw[hb]at hr
  refine⟨_,by simp only[execOp,ho,db hr];rfl,?_⟩
  rw[Int.zero_sub];exact .ew _ _ (.int _ _)
 ·simp at hv
theorem LZ {x:Operand} {x':O} {s d:TypeId} {k q:IntKind} (E:bt P w D ι env a) (ho:o.op=.convert s d x) (hs:P.underlying s=some (.int q)) (hd:P.underlying d=some (.int k)) (hx:cO P x=some x') (hv:cP k (cu env x')=some v):mD P a o w D ι v:=by
 have hr:=cC E hx
 unfold cP at hv
 split at hv
 ·rename_i k' n hb
  simp at hv;subst hv
  rw[hb]at hr
  refine⟨.int k (k.wrap n),?_,.ew _ _ (.int _ _)⟩
  simp only[execOp,ho,db hr,convert,Sem.run_bind,run_underlying hs,run_underlying hd,Result.andThen_ok,Conv.intToInt,Sem.run_pure]
 ·simp at hv
theorem Ji {x:Operand} {x':O} {s:TypeId} {i:Nat} {fs:Array Field} {f:Field} {m:Nat} (E:bt P w D ι env a) (ho:o.op=.fieldAddr s x i) (hs:P.underlying s=some (.struct fs)) (hf:fs[i]? =some f) (hm:dw P f.type=some (m+1)) (hx:cO P x=some x')
  (hv:BJ f.offset (cu env x')=some v):mD P a o w D ι v:=by
 have hr:=cC E hx
 have go:∀b oo,a.eval x=.pointer (some ⟨b,oo,none⟩)->(execOp a.eval o).run P w=.ok (.value (.pointer (some ⟨b,oo+f.offset,none⟩))) w:=fun b oo h=>by
  simp only[execOp,ho,h,Instr.fieldAt,Sem.run_bind,run_underlying hs,Result.andThen_ok,hf,Instr.sureAddr,Sem.run_pure,fieldPlace,run_sizeOf hm,Nat.add_eq_zero_iff,Nat.one_ne_zero,and_false,if_false,Addr.add]
  split
  ·rename_i h0;simp[h0]
  ·rfl
 unfold BJ at hv
 split at hv
 ·rename_i jP i' oo hb
  simp at hv;subst hv
  rw[hb]at hr
  obtain⟨B,h,hB,hk⟩:=iJ hr
  refine⟨_,go _ _ h,?_⟩
  rw[Nat.add_assoc]
  exact .ptr _ _ _ _ hB hk
 ·rename_i cs hb
  simp at hv;subst hv
  rw[hb]at hr
  obtain⟨b,oo,vs,h,h1,h2,h3,h4⟩:=jX hr
  refine⟨_,go _ _ h,.ew _ _ (.cH _ _ _ (fun j=>vs (f.offset+j)) h1 (fun a ha=>h2 a (List.mem_of_mem_drop ha)) (fun j hj=>?_) (fun j a ha=>h4 _ _ (by simpa using ha)))⟩
  rw[Nat.add_assoc]
  exact h3 _ (by simp at hj;omega)
 ·simp at hv
theorem Jj {x:Operand} {x':O} {s:TypeId} {i n:Nat} {ag:Bool} {fs:Array Field} {f:Field} (E:bt P w D ι env a) (ho:o.op=.field s x i) (hs:P.underlying s=some (.struct fs)) (hf:fs[i]? =some f) (rZ:mc P f.type=some ag) (hm:dw P f.type=some n) (hx:cO P x=some x')
  (hv:bK ag f.offset n (cu env x')=some v):mD P a o w D ι v:=by
 have hr:=cC E hx
 unfold bK at hv
 split at hv
 ·rename_i cs hb
  split at hv
  ·rename_i hl
   rw[hb]at hr
   obtain⟨vs,g,h,n1,fl,f1,r1⟩:=gT hr
   unfold part at hv
   cases ag with
   |true=>
    simp only[if_true]at hv
    split at hv
    ·simp at hv;subst hv
     refine⟨.agg (vs.extract f.offset (f.offset+n)),?_,.agg _ _ (fun j=>g (f.offset+j)) (by simp[n1];omega) (fun a ha=>fl a (List.mem_of_mem_drop (List.mem_of_mem_take ha))) (fun j hj=>?_) (fun j a ha=>?_)⟩
     ·simp only[execOp,ho,h,Instr.field,Sem.run_bind,run_underlying hs,Result.andThen_ok,hf,asAgg,Sem.run_pure,nF rZ hm]
     ·simp at hj
      rw[Array.getElem?_extract,if_pos ab];exact f1 _ ab
     ·rw[List.getElem?_take]at ha
      split at ha
      ·exact r1 _ _ (by simpa using ha)
      ·simp at ha
    ·simp at hv
   |false=>
    simp only[Bool.false_eq_true,if_false]at hv
    have mj:cs[f.offset]? =some v:=by simpa[List.head?_drop]using hv
    have dD:=(List.getElem?_eq_some_iff.1 mj).1
    exact⟨g f.offset,by simp only[execOp,ho,h,Instr.field,Sem.run_bind,run_underlying hs,Result.andThen_ok,hf,asAgg,Sem.run_pure,k6 rZ (f1 _ dD)],r1 _ _ mj⟩
  ·simp at hv
 ·simp at hv
theorem OO {left:Bool} {x y:Operand} {x' y':O} {t yt:TypeId} (E:bt P w D ι env a) (ho:o.op=.binOp (if left then .shl else .shr) t x y yt) (hx:cO P x=some x') (hy:cO P y=some y') (hv:il left (cu env x') (cu env y')=some v):mD P a o w D ι v:=by
 unfold il at hv
 split at hv
 ·rename_i k n k' m hb qk
  split at hv
  ·simp at hv
  ·rename_i hm
   simp at hv;subst hv
   have h1:=db (hb▸cC E hx)
   have h2:=db (qk▸cC E hy)
   refine⟨_,?_,.ew _ _ (.int _ _)⟩
   simp only[execOp,ho,h1,h2]
   cases left<;>simp only[Bool.false_eq_true,if_false,if_true,eqGuard,Bool.not_true,Bool.not_false,binOp,Op.shift,hm,Sem.run_bind,Sem.run_pure,Result.andThen_ok]<;>rfl
 ·simp at hv
end
end Go.Proofs.YtihgaadadaekmaaGreatDoor.V

namespace Go.Proofs.YtihgaadadaekmaaGreatDoor.V
open Go.RowKit
variable {P:Program} {w w':World} {D D':Nat->Prop} {ι ι':Names}
theorem ju (b o j:Nat):(⟨b,o,none⟩:Addr).add j=⟨b,o+j,none⟩:=by unfold Addr.add;split<;>simp_all
section
variable {g:Rows} {hs:Nat} {env:Env} {a:Act} {o:Oper} {id:Id} {v:AV}
theorem jG {t:TypeId} {ag:Bool} {n b oo:Nat} {cs:List AV} {v:AV} {f:Nat->Value} (rZ:mc P t=some ag) (hn:dw P t=some n) (hp:part ag n cs=some v) (fl:∀a∈cs,a.cell=true)
  (hc:∀j,j<cs.length->w.cell? ⟨b,oo+j,none⟩=some (f j)) (hr:∀j a,cs[j]? =some a->cv P w D ι a (f j)):∃u,(loadVar t ⟨b,oo,none⟩).run P w=.ok u w/\cv P w D ι v u:=by
 unfold part at hp
 cases ag with
 |true=>
  simp only[if_true]at hp
  split at hp
  ·rename_i hl
   simp at hp;subst hp
   refine⟨.agg ((List.range n).map f).toArray,?_,.agg _ _ f (by simp;omega) (fun a ha=>fl a (List.mem_of_mem_take ha)) (fun j hj=>?_) (fun j a ha=>?_)⟩
   ·simp only[loadVar,Sem.run_bind,qw rZ,Result.andThen_ok,if_true,run_sizeOf hn,Sem.run_pure]
    rw[run_loadCells w _ n f (fun j hj=>by rw[ju];exact hc j ab)]
    rfl
   ·simp at hj
    have:j<n:=ab
    simp[this]
   ·rw[List.getElem?_take]at ha
    split at ha
    ·exact hr _ _ ha
    ·simp at ha
  ·simp at hp
 |false=>
  simp only[Bool.false_eq_true,if_false]at hp
  cases cs with
  |nil=>simp at hp
  |cons c r=>
   simp at hp;subst hp
   refine⟨f 0,?_,hr 0 _ rfl⟩
   simp only[loadVar,Sem.run_bind,qw rZ,Result.andThen_ok,Bool.false_eq_true,if_false]
   have:=hc 0 (by simp)
   simp at this
   rw[run_load,this]
theorem GL {S:fG P hs D ι g w} {i:Nat} {cs:List AV} (h:rowAt g id i=some cs) (hk:∀B,ι id=some B->B.k=none):∃B r,g id=some r/\ι id=some B/\kj P w D ι B r/\r.rows[i]? =some cs/\(∀a∈cs,a.cell=true)/\∃f:Nat->Value,∀j,j<cs.length->w.cell? ⟨B.b,i*B.sz+j,none⟩=some (f j)/\∀a,cs[j]? =some a->cv P w D ι a (f j):=by
 unfold rowAt at h
 simp only[Option.bind_eq_some_iff]at h
 obtain⟨r,hr,hi⟩:=h
 obtain⟨B,hB,R,_,_⟩:=S.row id r hr
 replace R:=R.row (hk B hB)
 refine⟨B,r,hr,hB,R,hi,R.flat cs (List.mem_of_getElem? hi),fun j=>(w.cell? ⟨B.b,i*B.sz+j,none⟩).getD undef,fun j hj=>?_⟩
 obtain⟨u,hu,uo⟩:=R.at_ i j cs _ hi (List.getElem?_eq_getElem hj)
 rw[R.sz,hu]
 refine⟨by simp only[hu,Option.getD_some],fun a ha=>?_⟩
 rw[List.getElem?_eq_getElem hj]at ha
 injection ha with ha
 subst ha
 simpa only[hu,Option.getD_some]using uo
theorem L8 {x:Operand} {x':O} {t:TypeId} {ag:Bool} {n:Nat} (S:fG P hs D ι g w) (E:bt P w D ι env a) (ho:o.op=.load t x) (rZ:mc P t=some ag) (hn:dw P t=some n) (hx:cO P x=some x') (hv:ld g ag n (cu env x')=some v):mD P a o w D ι v:=by
 have hr:=cC E hx
 have go:∀b oo u,a.eval x=.pointer (some ⟨b,oo,none⟩)->(loadVar t ⟨b,oo,none⟩).run P w=.ok u w->(execOp a.eval o).run P w=.ok (.value u) w:=fun b oo u h h2=>by
  simp only[execOp,ho,h,Instr.loadAt,Instr.sureAddr,Sem.run_bind,Sem.run_pure,Result.andThen_ok,h2]
 unfold ld at hv
 split at hv
 ·rename_i jP i' oo hb
  rw[hb]at hr
  obtain⟨B,h,hB,hk⟩:=iJ hr
  simp only[Option.bind_eq_some_iff]at hv
  obtain⟨cs,dh,hp⟩:=hv
  obtain⟨B',r,EH,dk,R,hi,fl,f,hf⟩:=GL (S:=S) dh (fun B2 h2=>by rw[hB]at h2;injection h2 with h2;subst h2;exact hk)
  rw[hB]at dk;injection dk with dk;subst dk
  obtain⟨u,h1,h2⟩:=jG (w:=w) (b:=B.b) (oo:=i'*B.sz+oo) (f:=fun j=>f (oo+j)) rZ hn hp (fun a ha=>fl a (List.mem_of_mem_drop ha)) (fun j hj=>by
   rw[Nat.add_assoc];exact(hf _ (by simp at hj;omega)).1) (fun j a ha=>by
   simp at ha;exact(hf _ ((List.getElem?_eq_some_iff.1 ha).1)).2 _ ha)
  exact⟨u,go _ _ _ h h1,h2⟩
 ·rename_i cs hb
  rw[hb]at hr
  obtain⟨b,oo,vs,h,h1,h2,h3,h4⟩:=jX hr
  obtain⟨u,k1,k2⟩:=jG (w:=w) (b:=b) (oo:=oo) (f:=vs) rZ hn hv h2 h3 (fun j a ha=>.ew _ _ (h4 j a ha))
  exact⟨u,go _ _ _ h k1,k2⟩
 ·simp at hv
theorem OH {x:Operand} {x':O} (E:bt P w D ι env a) (ho:o.op=.nilCheck x) (hx:cO P x=some x') (hv:ej (cu env x')=some v):mD P a o w D ι v:=by
 have hr:=cC E hx
 unfold ej at hv
 split at hv
 ·rename_i jP i' oo hb
  simp at hv;subst hv
  rw[hb]at hr
  obtain⟨B,h,hB,hk⟩:=iJ hr
  exact⟨_,by simp only[execOp,ho,h];rfl,.ptr _ _ _ _ hB hk⟩
 ·rename_i cs hb
  simp at hv;subst hv
  rw[hb]at hr
  obtain⟨b,oo,vs,h,_⟩:=jX hr
  exact⟨_,by simp only[execOp,ho,h];rfl,h▸hr⟩
 ·simp at hv
theorem Jk {x i:Operand} {x' i':O} {t e:TypeId} {m:Nat} (S:fG P hs D ι g w) (E:bt P w D ι env a) (ho:o.op=.indexAddr t x i) (ht:P.underlying t=some (.slice e)) (hm:dw P e=some (m+1)) (hx:cO P x=some x') (hi:cO P i=some i')
  (hv:bL g (m+1) (cu env x') (cu env i')=some v):mD P a o w D ι v:=by
 have hr:=cC E hx
 have AI:=cC E hi
 have go:∀b oo n c k (q:Int),a.eval x=.slice (some ⟨b,oo,none⟩) n c->a.eval i=.int k q->0<=q->q<n->(execOp a.eval o).run P w=.ok (.value (.pointer (some ⟨b,oo+q.toNat*(m+1),none⟩))) w:=fun b oo n c k q h h2 h3 h4=>by
  simp only[execOp,ho,h,h2,Instr.indexAt,asIntOf,Sem.run_bind,Sem.run_pure,run_underlying ht,Result.andThen_ok,h3,h4,and_self,if_true,run_sizeOf hm,ju]
 unfold bL at hv
 split at hv
 ·rename_i rows k q hb qk
  split at hv
  ·rename_i hq
   simp only[Option.bind_eq_some_iff]at hv
   obtain⟨cs,dh,hv⟩:=hv
   split at hv
   ·rename_i hlen
    simp at hv;subst hv
    rw[hb]at hr;rw[qk]at AI
    have dD:=(List.getElem?_eq_some_iff.1 dh).1
    obtain⟨A,c,h,h1,h2,h3⟩:=tp hr
    rcases h3 with h3|⟨b,oo,sz,vs,rfl,hD,hl,fl,hc,hi⟩
    ·subst h3;simp at dh
    have eT:sz=m+1:=by rw[<-hlen,hl cs (List.mem_of_getElem? dh)]
    refine⟨_,go b oo _ _ k q h (db AI) hq ab,.ew _ _ (.cH cs b _ (vs q.toNat) hD (fl cs (List.mem_of_getElem? dh)) (fun j hj=>?_) (fun j a ha=>hi _ _ _ _ dh ha))⟩
    have:=hc q.toNat j dD (by rw[<-hl cs (List.mem_of_getElem? dh)];exact hj)
    rw[eT]at this
    rw[Nat.add_assoc];exact this
   ·simp at hv
  ·simp at hv
 ·rename_i jP off len k q hb qk
  split at hv
  ·rename_i hq
   simp only[Option.bind_eq_some_iff]at hv
   obtain⟨r,EH,hv⟩:=hv
   split at hv
   ·rename_i uZ
    simp at hv;subst hv
    rw[hb]at hr;rw[qk]at AI
    obtain⟨oo,cap,B,h,hB,h1,h2,h3,h4,hk⟩:=iI hr
    obtain⟨B',dk,R,_,_⟩:=S.row _ _ EH
    rw[hB]at dk;injection dk with dk;subst dk
    replace R:=R.row hk
    have eT:B.sz=m+1:=R.sz.trans uZ
    refine⟨_,go _ _ _ _ k q h (db AI) hq.1 hq.2,?_⟩
    have xo:oo=off*B.sz:=by rcases h2 with h2|h2<;>omega
    have:oo+q.toNat*(m+1)=(off+q.toNat)*B.sz+0:=by rw[xo,<-eT,Nat.add_mul];rfl
    rw[this]
    exact .ptr _ _ _ _ hB hk
   ·simp at hv
  ·simp at hv
 ·simp at hv
theorem L3 {x i:Operand} {x' i':O} {t e:TypeId} {m len:Nat} (E:bt P w D ι env a) (ho:o.op=.indexAddr t x i) (ht:P.underlying t=some (.array len e)) (hm:dw P e=some (m+1)) (hx:cO P x=some x') (hi:cO P i=some i')
  (hv:cQ len (m+1) (cu env x') (cu env i')=some v):mD P a o w D ι v:=by
 have hr:=cC E hx
 have AI:=cC E hi
 have go:∀b oo k (q:Int),a.eval x=.pointer (some ⟨b,oo,none⟩)->a.eval i=.int k q->0<=q->q<len->(execOp a.eval o).run P w=.ok (.value (.pointer (some ⟨b,oo+q.toNat*(m+1),none⟩))) w:=fun b oo k q h h2 h3 h4=>by
  simp only[execOp,ho,h,h2,Instr.indexAt,asIntOf,Sem.run_bind,Sem.run_pure,run_underlying ht,Instr.sureAddr,Result.andThen_ok,h3,h4,and_self,if_true,run_sizeOf hm,ju]
 unfold cQ at hv
 split at hv
 ·rename_i jP r oo k q hb qk
  split at hv
  ·rename_i hq
   simp at hv;subst hv
   rw[hb]at hr;rw[qk]at AI
   obtain⟨B,h,hB,hk⟩:=iJ hr
   refine⟨_,go _ _ k q h (db AI) hq.1 hq.2,?_⟩
   rw[Nat.add_assoc]
   exact .ptr _ _ _ _ hB hk
  ·simp at hv
 ·rename_i cs k q hb qk
  split at hv
  ·rename_i hq
   simp at hv;subst hv
   rw[hb]at hr;rw[qk]at AI
   obtain⟨b,oo,vs,h,h1,h2,h3,h4⟩:=jX hr
   refine⟨_,go _ _ k q h (db AI) hq.1 hq.2,.ew _ _ (.cH _ _ _ (fun j=>vs (q.toNat*(m+1)+j)) h1 (fun a ha=>h2 a (List.mem_of_mem_drop ha)) (fun j hj=>?_) (fun j a ha=>h4 _ _ (by simpa using ha)))⟩
   rw[Nat.add_assoc]
   exact h3 _ (by simp at hj;omega)
  ·simp at hv
 ·simp at hv
theorem L5 {x i:Operand} {x' i':O} {t:TypeId} (E:bt P w D ι env a) (ho:o.op=.index t x i) (ht:P.underlying t=some .string) (hx:cO P x=some x') (hi:cO P i=some i')
  (hv:cT (cu env x') (cu env i')=some v):mD P a o w D ι v:=by
 have hr:=cC E hx
 have AI:=cC E hi
 unfold cT at hv
 split at hv
 ·rename_i s k q hb qk
  split at hv
  ·rename_i hq
   simp only[Option.map_eq_some_iff]at hv
   obtain⟨c,hc,rfl⟩:=hv
   rw[hb]at hr;rw[qk]at AI
   refine⟨_,?_,.ew _ _ (.int _ _)⟩
   simp only[execOp,ho,eU hr,db AI,Instr.index,asIntOf,Sem.run_bind,Sem.run_pure,run_underlying ht,Result.andThen_ok,hq,if_true,hc]
  ·simp at hv
 ·simp at hv
theorem L4 {x i:Operand} {x' i':O} {t e:TypeId} {ag:Bool} {len n:Nat} (E:bt P w D ι env a) (ho:o.op=.index t x i) (ht:P.underlying t=some (.array len e)) (rZ:mc P e=some ag) (hn:dw P e=some n) (hx:cO P x=some x') (hi:cO P i=some i')
  (hv:cR ag len n (cu env x') (cu env i')=some v):mD P a o w D ι v:=by
 have hr:=cC E hx
 have AI:=cC E hi
 unfold cR at hv
 split at hv
 ·rename_i cs k q hb qk
  split at hv
  ·rename_i hq
   rw[hb]at hr;rw[qk]at AI
   obtain⟨vs,f,h,n1,fl,f1,r1⟩:=gT hr
   have go:∀u,(Go.part e vs (q.toNat*n)).run P w=.ok u w->(execOp a.eval o).run P w=.ok (.value u) w:=fun u hu=>by
    simp only[execOp,ho,h,db AI,Instr.index,asIntOf,Sem.run_bind,Sem.run_pure,run_underlying ht,Result.andThen_ok,hq,and_self,if_true,run_sizeOf hn,hu]
   unfold part at hv
   cases ag with
   |true=>
    simp only[if_true]at hv
    split at hv
    ·rename_i hl
     simp at hv;subst hv
     simp only[List.length_drop]at hl
     by_cases Du:n=0
     ·subst Du
      refine⟨_,go _ (nF rZ hn),.agg _ _ (fun _=>undef) (by simp) (fun a ha=>by simp at ha) (fun j hj=>by simp at hj) (fun j a ha=>by simp at ha)⟩
     refine⟨_,go _ (nF rZ hn),.agg _ _ (fun j=>f (q.toNat*n+j)) (by simp[n1];omega) (fun a ha=>fl a (List.mem_of_mem_drop (List.mem_of_mem_take ha))) (fun j hj=>?_) (fun j a ha=>?_)⟩
     ·simp at hj
      rw[Array.getElem?_extract,if_pos ab];exact f1 _ ab
     ·rw[List.getElem?_take]at ha
      split at ha
      ·exact r1 _ _ (by simpa using ha)
      ·simp at ha
    ·simp at hv
   |false=>
    simp only[Bool.false_eq_true,if_false]at hv
    have mj:cs[q.toNat*n]? =some v:=by simpa[List.head?_drop]using hv
    have dD:=(List.getElem?_eq_some_iff.1 mj).1
    exact⟨_,go _ (k6 rZ (f1 _ dD)),r1 _ _ mj⟩
  ·simp at hv
 ·simp at hv
theorem EE {x:Operand} {x':O} {i:Nat} (E:bt P w D ι env a) (ho:o.op=.extract x i) (hx:cO P x=some x') (hv:aL i (cu env x')=some v):mD P a o w D ι v:=by
 have hr:=cC E hx
 unfold aL at hv
 split at hv
 ·rename_i vs hb
  rw[hb]at hr
  obtain⟨us,f,h,h1,h2,h3⟩:=r9 hr
  have dD:=(List.getElem?_eq_some_iff.1 hv).1
  exact⟨_,by simp only[execOp,ho,h,Instr.extract,h2 _ dD];rfl,h3 _ _ hv⟩
 ·simp at hv
theorem OL {x:Operand} {x':O} {t:TypeId} {e:TypeId} {n:Nat} (E:bt P w D ι env a) (ho:o.op=.call {callee:=.builtin .len,args:= #[x],argTypes:= #[t]}) (ht:P.underlying t=some (.slice e)) (hx:cO P x=some x') (hv:ek (cu env x')=some n):mD P a o w D ι (.int .i64 n):=by
 have hr:=cC E hx
 have go:∀A c,a.eval x=.slice A n c->(execOp a.eval o).run P w=.ok (.value (.int .i64 n)) w:=fun A c h=>by
  simp only[execOp,ho,resolve,Sem.run_bind,Sem.run_pure,Result.andThen_ok,invoke,builtin,Array.map,h]
  simp[Builtin.len_,run_underlying ht,goInt,h]
 refine⟨.int .i64 n,?_,.ew _ _ (.int _ _)⟩
 unfold ek at hv
 split at hv<;>simp at hv<;>subst hv<;>rename_i hb<;>rw[hb]at hr
 ·exact go _ _ (js hr)
 ·obtain⟨A,c,h,_⟩:=tp hr;exact go _ _ h
 ·obtain⟨oo,cap,B,h,_⟩:=iI hr;exact go _ _ h
theorem L7 {x:Operand} {x':O} {t:TypeId} (E:bt P w D ι env a) (ho:o.op=.call {callee:=.builtin .len,args:= #[x],argTypes:= #[t]}) (ht:P.underlying t=some .string) (hx:cO P x=some x') (hv:cV (cu env x')=some v):mD P a o w D ι v:=by
 have hr:=cC E hx
 unfold cV at hv
 split at hv
 ·rename_i s hb
  simp at hv;subst hv
  rw[hb]at hr
  have h:=eU hr
  refine⟨_,?_,.ew _ _ (.int _ _)⟩
  simp only[execOp,ho,resolve,Sem.run_bind,Sem.run_pure,Result.andThen_ok,invoke,builtin,Array.map,h]
  simp[Builtin.len_,run_underlying ht,goInt,h]
 ·simp at hv
theorem lI {isS:Bool} {len cap h l:Nat} {lo hi:Option Operand} {JT oW:Option O} (E:bt P w D ι env a) (jH:pa P lo=some JT) (zA:pa P hi=some oW) (hh:dU len (oW.map (cu env))=some h) (hl:dV h (JT.map (cu env))=some l) (hc:len<=cap):
  (Instr.sliceBounds isS len cap (lo.map a.eval) (hi.map a.eval) none).run P w=.ok (l,h,cap) w/\l<=h/\h<=len:=by
 have bound:∀(x:Operand) (y:O) (k:IntKind) (n:Int) (m:Nat) (c:BoundsCode),cO P x=some y->cu env y=.int k n->0<=n->n<=m->(Instr.sliceBound (a.eval x) m c).run P w=.ok n.toNat w:=fun x y k n m c hx hy h0 h1=>by
  have hr:=cC E hx
  rw[hy]at hr
  simp only[Instr.sliceBound,db hr,asIntOf,Sem.run_bind,Sem.run_pure,Result.andThen_ok,h0,h1,and_self,if_true]
 have H:h<=len/\((hi=none/\h=len)∨∃x,hi=some x/\∀c,(Instr.sliceBound (a.eval x) cap c).run P w=.ok h w):=by
  cases hi with
  |none=>
   simp[pa]at zA;subst zA
   simp[dU]at hh;subst hh
   exact⟨Nat.le_refl _,.inl ⟨rfl,rfl⟩⟩
  |some x=>
   simp only[pa,Option.map_eq_some_iff]at zA
   obtain⟨y,hy,rfl⟩:=zA
   simp only[Option.map_some,dU]at hh
   split at hh
   ·rename_i e;cases e
   ·rename_i k n e
    injection e with e
    split at hh
    ·rename_i hn
     simp at hh;subst hh
     exact⟨ab,.inr ⟨x,rfl,fun c=>bound x y k n _ _ hy e hn.1 ab⟩⟩
    ·simp at hh
   ·simp at hh
 have L:l<=h/\((lo=none/\l=0)∨∃x,lo=some x/\∀c,(Instr.sliceBound (a.eval x) h c).run P w=.ok l w):=by
  cases lo with
  |none=>
   simp[pa]at jH;subst jH
   simp[dV]at hl;subst hl
   exact⟨Nat.zero_le _,.inl ⟨rfl,rfl⟩⟩
  |some x=>
   simp only[pa,Option.map_eq_some_iff]at jH
   obtain⟨y,hy,rfl⟩:=jH
   simp only[Option.map_some,dV]at hl
   split at hl
   ·rename_i e;cases e
   ·rename_i k n e
    injection e with e
    split at hl
    ·rename_i hn
     simp at hl;subst hl
     exact⟨ab,.inr ⟨x,rfl,fun c=>bound x y k n h _ hy e hn.1 hn.2⟩⟩
    ·simp at hl
   ·simp at hl
 refine⟨?_,L.1,H.1⟩
 unfold Instr.sliceBounds
 rcases H.2 with⟨rfl,rfl⟩|⟨x,rfl,hx⟩<;>rcases L.2 with⟨rfl,rfl⟩|⟨y,rfl,hy⟩<;>
  simp only[Option.map_none,Option.map_some,Sem.run_bind,Sem.run_pure,Result.andThen_ok, *]
theorem Jl {x:Operand} {x':O} {lo hi:Option Operand} {JT oW:Option O} {t e:TypeId} {m:Nat} (S:fG P hs D ι g w) (E:bt P w D ι env a) (ho:o.op=.slice t x lo hi none) (ht:P.underlying t=some (.slice e)) (hm:dw P e=some m) (hx:cO P x=some x') (jH:pa P lo=some JT) (zA:pa P hi=some oW)
  (hv:bP g m (cu env x') (JT.map (cu env)) (oW.map (cu env))=some v):mD P a o w D ι v:=by
 have hr:=cC E hx
 have go:∀A len cap l h,a.eval x=.slice A len cap->(Instr.sliceBounds true len cap (lo.map a.eval) (hi.map a.eval) none).run P w=.ok (l,h,cap) w->(execOp a.eval o).run P w=.ok (.value (.slice (if cap=l then A else A.map (·.add (l*m))) (h-l) (cap-l))) w:=fun A len cap l h h1 h2=>by
  simp only[execOp,ho,h1,Instr.sliceAt,Instr.slice,Sem.run_bind,Sem.run_pure,run_underlying ht,Result.andThen_ok,Option.map_none,h2,run_sizeOf hm]
 unfold bP at hv
 split at hv
 ·rename_i hb
  rw[hb]at hr
  simp only[Option.bind_eq_some_iff,Option.map_eq_some_iff]at hv
  obtain⟨h,hh,l,hl,rfl⟩:=hv
  obtain⟨q,q1,q2⟩:=lI (w:=w) (isS:=true) (cap:=0) E jH zA hh hl (Nat.le_refl _)
  have h0:h=0:=ab
  have l0:l=0:=ab
  subst h0;subst l0
  refine⟨_,go _ _ _ _ _ (js hr) q,?_⟩
  simp;exact .ew _ _ .bE
 ·rename_i rows hb
  rw[hb]at hr
  simp only[Option.bind_eq_some_iff,Option.map_eq_some_iff]at hv
  obtain⟨h,hh,l,hl,hv⟩:=hv
  split at hv
  ·rename_i cN
   simp at hv;subst hv
   obtain⟨A,c,he,c1,c2,h3⟩:=tp hr
   obtain⟨q,q1,q2⟩:=lI (w:=w) (isS:=true) (cap:=c) E jH zA hh hl c1
   refine⟨_,go _ _ _ _ _ he q,.ew _ _ ?_⟩
   have hlen:((rows.drop l).take (h-l)).length=h-l:=by simp;omega
   by_cases hz:h-l=0
   ·have:(rows.drop l).take (h-l)=[]:=by rw[hz];simp
    rw[this,hz]
    exact .zE _ _ ab
   ·rcases h3 with h3|⟨b,oo,sz,vs,rfl,hD,Hv,fl,hc,hi⟩
    ·subst h3;simp at q2;omega
    rw[if_neg ab]
    simp only[Option.map_some,ju]
    have yG:sz=m:=by
     have dD:l<rows.length:=ab
     have:=cN rows[l] (List.getElem_mem dD)
     rw[<-this,Hv _ (List.getElem_mem dD)]
    subst yG
    refine .sl _ b _ _ _ sz (fun i j=>vs (l+i) j) hlen ab ab hD (fun cs dh=>Hv cs (List.mem_of_mem_drop (List.mem_of_mem_take dh))) (fun cs dh=>fl cs (List.mem_of_mem_drop (List.mem_of_mem_take dh))) (fun i j hi hj=>?_) (fun i j cs a dh ha=>?_)
    ·rw[<-hc (l+i) j ab hj,Nat.add_mul]
     congr 2;omega
    ·rw[List.getElem?_take]at dh
     split at dh
     ·exact hi _ _ _ _ (by simpa using dh) ha
     ·simp at dh
  ·simp at hv
 ·rename_i jP off len hb
  rw[hb]at hr
  simp only[Option.bind_eq_some_iff,Option.map_eq_some_iff]at hv
  obtain⟨r,EH,h,hh,l,hl,hv⟩:=hv
  split at hv
  ·rename_i uZ
   simp at hv;subst hv
   obtain⟨oo,cap,B,he,hB,h1,h2,h3,h4,hk⟩:=iI hr
   obtain⟨B',dk,R,_,_⟩:=S.row _ _ EH
   rw[hB]at dk;injection dk with dk;subst dk
   replace R:=R.row hk
   have eT:B.sz=m:=R.sz.trans uZ
   obtain⟨q,q1,q2⟩:=lI (w:=w) (isS:=true) (cap:=cap) E jH zA hh hl h1
   refine⟨_,go _ _ _ _ _ he q,?_⟩
   have e1:(off+l+(cap-l))*B.sz<=B.C:=by rw[show off+l+(cap-l)=off+cap by omega];exact h3
   by_cases kB:cap=l
   ·rw[if_pos kB]
    exact .own _ _ _ _ _ B hB hk ab (.inl ab) e1 ab
   ·rw[if_neg kB]
    simp only[Option.map_some,ju]
    have xo:oo=off*B.sz:=by rcases h2 with h2|h2<;>omega
    exact .own _ _ _ _ _ B hB hk ab (.inr (by rw[xo,eT,Nat.add_mul])) e1 ab
  ·simp at hv
 ·simp at hv
theorem Hh {x:Operand} {x':O} {lo hi:Option Operand} {JT oW:Option O} {t:TypeId} (E:bt P w D ι env a) (ho:o.op=.slice t x lo hi none) (ht:P.underlying t=some .string) (hx:cO P x=some x') (jH:pa P lo=some JT) (zA:pa P hi=some oW)
  (hv:bd (cu env x') (JT.map (cu env)) (oW.map (cu env))=some v):mD P a o w D ι v:=by
 have hr:=cC E hx
 unfold bd at hv
 split at hv
 ·rename_i s hb
  rw[hb]at hr
  simp only[Option.bind_eq_some_iff,Option.map_eq_some_iff]at hv
  obtain⟨h,hh,l,hl,rfl⟩:=hv
  obtain⟨q,_,_⟩:=lI (w:=w) (isS:=false) E jH zA hh hl (Nat.le_refl _)
  refine⟨_,?_,.ew _ _ (.str _)⟩
  simp only[execOp,ho,eU hr,Instr.sliceAt,Instr.slice,Sem.run_bind,Sem.run_pure,run_underlying ht,Result.andThen_ok,Option.map_none,Option.isSome_none,Bool.false_eq_true,if_false,q]
 ·simp at hv
theorem Bh {xs:List Operand} {ys:List O} (E:bt P w D ι env a) (h:xs.mapM (cO P)=some ys):(xs.map a.eval).length=ys.length/\∀j y,ys[j]? =some y->cv P w D ι (cu env y) ((xs.map a.eval).getD j undef):=by
 induction xs generalizing ys with
 |nil=>simp at h;subst h;simp
 |cons x r ih=>
  simp only[List.mapM_cons,Option.bind_eq_bind,Option.bind_eq_some_iff]at h
  obtain⟨c,hc,n8,dh,h⟩:=h
  simp at h;subst h
  obtain⟨h1,h2⟩:=ih dh
  refine⟨by simpa using h1,fun j d hd=>?_⟩
  cases j with
  |zero=>simp at hd ⊢;subst hd;exact cC E hc
  |succ j=>simp at hd ⊢;simpa using h2 j d hd
theorem Ma {f:Nat} {first cq:Array Operand} {xV:List O} (E:bt P w D ι env a) (ho:o.op=.makeFunc (.func f) first cq) (hf:first= #[]) (hc:e8 P f=true) (hx:cq.toList.mapM (cO P)=some xV):mD P a o w D ι (.fn f (xV.map (cu env))):=by
 subst hf
 obtain⟨h1,h2⟩:=Bh E hx
 refine⟨.func (.func f) #[] (cq.map a.eval),by simp only[execOp,ho,Instr.makeFunc,Sem.run_bind,Sem.run_pure,Result.andThen_ok];simp,.fn _ _ _ (fun j=>(cq.toList.map a.eval).getD j undef) hc (by simpa using h1) (fun j hj=>?_) (fun j x MG=>?_)⟩
 ·simp at hj h1
  have:j<cq.size:=ab
  simp[this]
 ·simp only[List.getElem?_map,Option.map_eq_some_iff]at MG
  obtain⟨y,hy,rfl⟩:=MG
  exact h2 j y hy
theorem Mb {f:Nat} {first cq:Array Operand} {xV:List O} (E:bt P w D ι env a) (ho:o.op=.makeFunc (.func f) first cq) (hf:cq= #[]) (hc:e8 P f=true) (hx:first.toList.mapM (cO P)=some xV):mD P a o w D ι (.tU f (xV.map (cu env))):=by
 subst hf
 obtain⟨h1,h2⟩:=Bh E hx
 refine⟨.func (.func f) (first.map a.eval) #[],by simp only[execOp,ho,Instr.makeFunc,Sem.run_bind,Sem.run_pure,Result.andThen_ok];simp,.tU _ _ _ (fun j=>(first.toList.map a.eval).getD j undef) hc (by simpa using h1) (fun j hj=>?_) (fun j x MG=>?_)⟩
 ·simp at hj h1
  have:j<first.size:=ab
  simp[this]
 ·simp only[List.getElem?_map,Option.map_eq_some_iff]at MG
  obtain⟨y,hy,rfl⟩:=MG
  exact h2 j y hy
end
end Go.Proofs.YtihgaadadaekmaaGreatDoor.V

namespace Go.Proofs.YtihgaadadaekmaaGreatDoor.V
open Go.RowKit
variable {P:Program} {w w':World} {D D':Nat->Prop} {ι ι':Names}
def Mk (P:Program) (a:Act) (o:Oper) (w:World) (D:Nat->Prop) (ι:Names) (id:Id) (v:AV) (r:Row):Prop:=
 ∃u cells T,(execOp a.eval o).run P w=.ok (.value u) (w.alloc (.cells cells T))/\r.w=true/\r.rows.length*r.sz<=cells.size/\(∀cs∈r.rows,cs.length=r.sz)/\(∀cs∈r.rows,∀a∈cs,a.cell=true)/\
  (∀i j cs a,r.rows[i]? =some cs->cs[j]? =some a->∃x,cells[i*r.sz+j]? =some x/\cv P w D ι a x)/\∀ι':Names,ι' id=some ⟨w.heap.size,r.sz,cells.size,none⟩->cv P w D ι' v u
section
variable {g:Rows} {hs:Nat} {env:Env} {a:Act} {o:Oper} {id:Id} {v:AV}
theorem kL {vs:List Value} {cs:List K} (h:vs.mapM DK=some cs):eP P w D ι (cs.map K.av) vs.toArray:=by
 obtain⟨h1,h2⟩:=pA h
 refine⟨by simp[h1],fun j a ha=>?_⟩
 simp only[List.getElem?_map,Option.map_eq_some_iff]at ha
 obtain⟨c,hc,rfl⟩:=ha
 exact⟨c.val,by simpa using h2 j c hc,tk c⟩
theorem jf {t:TypeId} {z:List K} (h:iT P t=some z):∃i v,P.info? t=some i/\i.zero=some v/\v.cells.size=i.size/\v.cells.toList.mapM DK=some z/\z.length=i.size:=by
 unfold iT at h
 split at h
 ·rename_i i hi
  split at h
  ·rename_i v hv
   split at h
   ·rename_i hs
    exact⟨i,v,hi,hv,hs,h,by rw[(pA h).1];simpa using hs⟩
   ·simp at h
  ·simp at h
 ·simp at h
theorem Cy {cs:List AV} {cells:Array Value} (h:eP P w D ι cs cells):∀i j c a,[cs][i]? =some c->c[j]? =some a->∃x,cells[i*cs.length+j]? =some x/\cv P w D ι a x:=by
 intro i j c a hi hj
 cases i with
 |zero=>simp at hi;subst hi;simpa using h.2 j a hj
 |succ i=>simp at hi
theorem Om {t:TypeId} {z:List K} (ho:o.op=.alloc t) (hz:iT P t=some z):Mk P a o w D ι id (.ptr id 0 0) ⟨true,z.length,[z.map K.av]⟩:=by
 obtain⟨i,v,hi,hv,hs,hm,hl⟩:=jf hz
 have hk:=kL (P:=P) (w:=w) (D:=D) (ι:=ι) hm
 refine⟨.pointer (some ⟨w.heap.size,0,none⟩),v.cells,t,?_,rfl,?_,?_,?_,?_,?_⟩
 ·simp only[execOp,ho,Instr.alloc,zeroValue,typeInfo,Sem.run_bind]
  simp[hi,hv,newVar,newRow]
 ·simp[hl,hs]
 ·intro cs dh;simp at dh;subst dh;simp
 ·intro cs dh x hx;simp at dh;subst dh
  obtain⟨c,_,rfl⟩:=List.mem_map.1 hx;exact c.ll
 ·have:=Cy hk;simpa using this
 ·intro ι' hι
  have:=cv.ptr (P:=P) (w:=w) (D:=D) (ι:=ι') id 0 0 _ hι rfl
  simpa using this
theorem oN {x:AV} {u:Value} (h:cv P w D ι x u) (hc:x.cells.all AV.cell=true):eP P w D ι x.cells u.cells:=by
 obtain⟨h1,f,h2,h3⟩:=h.cells hc
 exact⟨h1,fun j a ha=>⟨f j,h2 j (List.getElem?_eq_some_iff.1 ha).1,h3 j a ha⟩⟩
theorem Ok {t:TypeId} {x:Operand} {x':O} {cs:List AV} (E:bt P w D ι env a) (ho:o.op=.box t x) (hx:cO P x=some x') (hb:cJ (cu env x')=some cs):Mk P a o w D ι id (.ptr id 0 0) ⟨true,cs.length,[cs]⟩:=by
 have hr:=cC E hx
 unfold cJ at hb
 split at hb
 ·rename_i cN
  simp at hb;subst hb
  have hk:=oN hr cN
  refine⟨.pointer (some ⟨w.heap.size,0,none⟩),(a.eval x).cells,t,?_,rfl,?_,?_,?_,?_,?_⟩
  ·simp only[execOp,ho,Instr.box,Sem.run_bind]
   simp[newVar,newRow]
  ·simp[hk.1]
  ·intro cs dh;simp at dh;subst dh;rfl
  ·intro cs dh y hy;simp at dh;subst dh
   exact List.all_eq_true.1 cN y hy
  ·exact Cy hk
  ·intro ι' hι
   have:=cv.ptr (P:=P) (w:=w) (D:=D) (ι:=ι') id 0 0 _ hι rfl
   simpa using this
 ·simp at hb
theorem foldl_set:∀(vs:List Value) (n off:Nat) (cells:Array Value),off+n+vs.length<=cells.size->((vs.zipIdx n).foldl (fun cs (x:Value×Nat)=>cs.setIfInBounds (off+x.2) x.1) cells).size=cells.size/\
  ∀k,((vs.zipIdx n).foldl (fun cs (x:Value×Nat)=>cs.setIfInBounds (off+x.2) x.1) cells)[k]? =if off+n<=k/\k<off+n+vs.length then vs[k-(off+n)]? else cells[k]?
 |[],n,off,cells,_=>⟨rfl,fun k=>by simp;intro h1 h2;omega⟩
 |v::r,n,off,cells,h=>by
  simp only[List.length_cons]at h
  obtain⟨h1,h2⟩:=foldl_set r (n+1) off (cells.setIfInBounds (off+n) v) (by simp;omega)
  simp only[List.zipIdx_cons,List.foldl_cons]
  refine⟨by rw[h1];simp,fun k=>?_⟩
  rw[h2 k]
  simp only[List.length_cons]
  by_cases hk:k=off+n
  ·subst hk
   rw[if_neg ab,if_pos ab]
   simp[show off+n<cells.size by omega]
  ·by_cases sQ:off+n<=k/\k<off+n+(r.length+1)
   ·rw[if_pos ab,if_pos sQ]
    have:k-(off+n)=(k-(off+(n+1)))+1:=ab
    rw[this,List.getElem?_cons_succ]
   ·rw[if_neg ab,if_neg sQ,Array.getElem?_setIfInBounds_ne ab]
theorem sH (place:Nat->Option (Nat×Nat)):∀(ps:List (Nat×Value)) (qs:List (Nat×Nat×AV)) (cells:Array Value) (cs res:List AV),eP P w D ι cs cells->(∀a∈cs,a.cell=true)->ps.length=qs.length->
  (∀(k:Nat) i u o' n x,ps[k]? =some (i,u)->qs[k]? =some (o',n,x)->place i=some (o',n)/\cv P w D ι x u)->cw cs qs=some res->∃iy,Instr.fill place cells ps=some iy/\eP P w D ι res iy/\(∀a∈res,a.cell=true)/\res.length=cs.length:=by
 intro ps
 induction ps with
 |nil=>
  intro qs cells cs res hR hf hl _ hv
  cases qs with
  |nil=>simp[cw]at hv;subst hv;exact⟨cells,rfl,hR,hf,rfl⟩
  |cons q r=>simp at hl
 |cons p ps ih=>
  intro qs cells cs res hR hf hl hp hv
  cases qs with
  |nil=>simp at hl
  |cons q qs=>
   obtain⟨i,u⟩:=p
   obtain⟨oo,n,x⟩:=q
   obtain⟨mi,hr⟩:=hp 0 i u oo n x rfl rfl
   unfold cw at hv
   split at hv
   ·rename_i hc
    obtain⟨c1,c2,c3⟩:=hc
    have hk:=oN hr c3
    have N5:u.cells.size=n:=by rw[hk.1,c1]
    have dh:cells.size=cs.length:=hR.1
    unfold Instr.fill
    simp only[mi]
    rw[if_neg (by rw[N5,dh];simp;omega)]
    obtain⟨s1,s2⟩:=foldl_set u.cells.toList 0 oo cells (by simp;omega)
    have e0:(u.cells.zipIdx.foldl (fun cs (x:Value×Nat)=>cs.setIfInBounds (oo+x.2) x.1) cells)=(u.cells.toList.zipIdx 0).foldl (fun cs (x:Value×Nat)=>cs.setIfInBounds (oo+x.2) x.1) cells:=by
     rw[<-Array.foldl_toList];simp
    have ug:=ih qs (u.cells.zipIdx.foldl (fun cs (x:Value×Nat)=>cs.setIfInBounds (oo+x.2) x.1) cells) (cs.take oo++x.cells++cs.drop (oo+n)) res ?_ ?_ (by simpa using hl) (fun k i u o' n x h1 h2=>hp (k+1) i u o' n x (by simpa using h1) (by simpa using h2)) hv
    ·obtain⟨iy,h1,h2,h3,h4⟩:=ug
     refine⟨iy,h1,h2,h3,?_⟩
     rw[h4];simp;omega
    ·rw[e0]
     refine⟨by rw[s1,dh];simp;omega,fun j a ha=>?_⟩
     rw[s2 j]
     simp only[Nat.add_zero,Array.length_toList]
     by_cases hj:oo<=j/\j<oo+u.cells.size
     ·rw[if_pos hj]
      rw[List.append_assoc,List.getElem?_append_right (by simp;omega),List.getElem?_append_left (by simp;omega)]at ha
      simp only[List.length_take]at ha
      rw[show min oo cs.length=oo by omega]at ha
      simpa using hk.2 _ _ ha
     ·rw[if_neg hj]
      by_cases hj2:j<oo
      ·rw[List.append_assoc,List.getElem?_append_left (by simp;omega),List.getElem?_take,if_pos hj2]at ha
       exact hR.2 _ _ ha
      ·rw[List.getElem?_append_right (by simp;omega)]at ha
       simp only[List.length_append,List.length_take,List.getElem?_drop]at ha
       rw[show oo+n+(j-(min oo cs.length+x.cells.length))=j by omega]at ha
       exact hR.2 _ _ ha
    ·intro b hb
     rcases List.mem_append.1 hb with hb|hb
     ·rcases List.mem_append.1 hb with hb|hb
      ·exact hf b (List.mem_of_mem_take hb)
      ·exact List.all_eq_true.1 c3 b hb
     ·exact hf b (List.mem_of_mem_drop hb)
   ·simp at hv
theorem ue {fs:List Field} (h:∀f∈fs,(P.info? f.type).isSome=true):∃places,fs.mapM (fun f=>(P.info? f.type).map fun i=>(f.offset,i.size))=some places/\∀(i:Nat) (f:Field) (n:Nat),fs[i]? =some f->dw P f.type=some n->places[i]? =some (f.offset,n):=by
 induction fs with
 |nil=>exact⟨[],rfl,fun i f n h=>by simp at h⟩
 |cons f r ih=>
  obtain⟨q,h1,h2⟩:=ih (fun x hx=>h x (List.mem_cons_of_mem _ hx))
  obtain⟨i,hi⟩:=Option.isSome_iff_exists.1 (h f (by simp))
  refine⟨(f.offset,i.size)::q,by simp[hi,h1],fun k x n hk hn=>?_⟩
  cases k with
  |zero=>simp at hk;subst hk;simp[dw,hi]at hn;subst hn;rfl
  |succ k=>simp at hk ⊢;exact h2 k x n hk hn
theorem ov {ps:List (Nat×Operand)} {l:List (Nat×O)} (E:bt P w D ι env a) (h:ps.mapM (fun(x:Nat×Operand)=>(cO P x.2).map (x.1,·))=some l):l.length=ps.length/\∀(k i:Nat) (y:O),l[k]? =some (i,y)->∃x,ps[k]? =some (i,x)/\cO P x=some y:=by
 induction ps generalizing l with
 |nil=>simp at h;subst h;simp
 |cons p r ih=>
  simp only[List.mapM_cons,Option.bind_eq_bind,Option.bind_eq_some_iff]at h
  obtain⟨c,hc,n8,dh,h⟩:=h
  simp at h;subst h
  obtain⟨h1,h2⟩:=ih dh
  simp only[Option.map_eq_some_iff]at hc
  obtain⟨y,hy,rfl⟩:=hc
  refine⟨by simp[h1],fun k i z hk=>?_⟩
  cases k with
  |zero=>simp at hk;obtain⟨rfl,rfl⟩:=hk;exact⟨p.2,rfl,hy⟩
  |succ k=>simp at hk ⊢;exact h2 k i z hk
theorem zU {fs:Array Field} {l:List (Nat×O)} {q:List (Nat×Nat×O)} (h:qa P fs l=some q):q.length=l.length/\∀(k oo n:Nat) (y:O),q[k]? =some (oo,n,y)->∃(i:Nat) (f:Field),l[k]? =some (i,y)/\fs[i]? =some f/\f.offset=oo/\dw P f.type=some n:=by
 induction l generalizing q with
 |nil=>simp[qa]at h;subst h;simp
 |cons p r ih=>
  obtain⟨i,x⟩:=p
  unfold qa at h
  split at h
  ·rename_i f hf
   split at h
   ·rename_i n hn
    simp only[Option.map_eq_some_iff]at h
    obtain⟨q',Ir,rfl⟩:=h
    obtain⟨h1,h2⟩:=ih Ir
    refine⟨by simp[h1],fun k oo m y hk=>?_⟩
    cases k with
    |zero=>simp at hk;obtain⟨rfl,rfl,rfl⟩:=hk;exact⟨i,f,rfl,hf,rfl,hn⟩
    |succ k=>simp only[List.getElem?_cons_succ]at hk ⊢;exact h2 k oo m y hk
   ·simp at h
  ·simp at h
theorem eP.agg {xs:List AV} {vs:Array Value} (h:eP P w D ι xs vs) (hf:∀a∈xs,a.cell=true):cv P w D ι (.agg xs) (.agg vs):=
 .agg xs vs (fun j=>vs.getD j undef) h.1 hf (fun j hj=>by
  have:j<vs.size:=by rw[h.1];exact hj
  simp[this]) (fun j a ha=>by
  obtain⟨u,h1,h2⟩:=h.2 j a ha
  simpa[Array.getD_eq_getD_getElem?,h1]using h2)
theorem Jh {t:TypeId} {ps:Array (Nat×Operand)} {fs:Array Field} {z:List K} {l:List (Nat×O)} {q:List (Nat×Nat×O)} {cs:List AV} (E:bt P w D ι env a) (ho:o.op=.build t ps) (ht:P.underlying t=some (.struct fs)) (hz:iT P t=some z) (hl:qd P ps=some l)
  (ph:∀f∈fs.toList,(P.info? f.type).isSome=true) (hq:qa P fs l=some q) (hv:cw (z.map K.av) (q.map fun(o,n,x)=>(o,n,cu env x))=some cs):mD P a o w D ι (.agg cs):=by
 obtain⟨it,zv,hi,sW,hs,hm,Co⟩:=jf hz
 obtain⟨places,mi,QQ⟩:=ue ph
 have hk:=kL (P:=P) (w:=w) (D:=D) (ι:=ι) hm
 obtain⟨n1,r1⟩:=ov E hl
 obtain⟨n2,r2⟩:=zU hq
 obtain⟨iy,h1,h2,h3,_⟩:=sH (P:=P) (w:=w) (D:=D) (ι:=ι) (places.toArray[·]?) (ps.toList.map fun(i,x)=>(i,a.eval x)) (q.map fun(o,n,x)=>(o,n,cu env x)) zv.cells _ cs (by simpa using hk)
  (fun b hb=>by obtain⟨c,_,rfl⟩:=List.mem_map.1 hb;exact c.ll) (by simp[n2,n1]) (fun k i u o' n x qm sQ=>by
   simp only[List.getElem?_map,Option.map_eq_some_iff]at qm sQ
   obtain⟨⟨i',x'⟩,hp,e1⟩:=qm
   obtain⟨⟨o2,n',y⟩,Ir,e2⟩:=sQ
   simp only[Prod.mk.injEq]at e1 e2
   obtain⟨rfl,rfl⟩:=e1
   obtain⟨rfl,rfl,rfl⟩:=e2
   obtain⟨i2,f,FQ,hf,rfl,hn⟩:=r2 _ _ _ _ Ir
   obtain⟨x2,xu,hc⟩:=r1 _ _ _ FQ
   rw[hp]at xu
   simp only[Option.some.injEq,Prod.mk.injEq]at xu
   obtain⟨rfl,rfl⟩:=xu
   exact⟨by simpa using QQ _ _ _ (by simpa using hf) hn,cC E hc⟩) hv
 refine⟨.agg iy,?_,h2.agg h3⟩
 have hb:P.built t ((ps.map fun(i,x)=>(i,a.eval x)).toList)=some iy:=by
  unfold Program.built
  simp only[hi,ht,sW,mi]
  simpa using h1
 simp only[execOp,ho,Sem.run_bind,run_build w t _ _ hb,Result.andThen_ok,Sem.run_pure]
theorem Hg {t e:TypeId} {len n:Nat} {ps:Array (Nat×Operand)} {z:List K} {l:List (Nat×O)} {cs:List AV} (E:bt P w D ι env a) (ho:o.op=.build t ps) (ht:P.underlying t=some (.array len e)) (hz:iT P t=some z) (hl:qd P ps=some l) (hn:dw P e=some n)
  (hv:cw (z.map K.av) ((l.map fun(x:Nat×O)=>(x.1*n,n,x.2)).map fun(o,n,x)=>(o,n,cu env x))=some cs):mD P a o w D ι (.agg cs):=by
 obtain⟨it,zv,hi,sW,hs,hm,Co⟩:=jf hz
 have hk:=kL (P:=P) (w:=w) (D:=D) (ι:=ι) hm
 obtain⟨n1,r1⟩:=ov E hl
 obtain⟨ie,Hr,eT⟩:∃ie,P.info? e=some ie/\ie.size=n:=by simpa[dw]using hn
 obtain⟨iy,h1,h2,h3,_⟩:=sH (P:=P) (w:=w) (D:=D) (ι:=ι) (fun i=>some (i*ie.size,ie.size)) (ps.toList.map fun(i,x)=>(i,a.eval x)) ((l.map fun(x:Nat×O)=>(x.1*n,n,x.2)).map fun(o,n,x)=>(o,n,cu env x)) zv.cells _ cs (by simpa using hk)
  (fun b hb=>by obtain⟨c,_,rfl⟩:=List.mem_map.1 hb;exact c.ll) (by simp[n1]) (fun k i u o' n' x qm sQ=>by
   simp only[List.getElem?_map,Option.map_eq_some_iff]at qm sQ
   obtain⟨⟨i',x'⟩,hp,e1⟩:=qm
   obtain⟨⟨o2,n2,y⟩,⟨⟨i2,y2⟩,FQ,e3⟩,e2⟩:=sQ
   simp only[Prod.mk.injEq]at e1 e2 e3
   obtain⟨rfl,rfl⟩:=e1
   obtain⟨rfl,rfl,rfl⟩:=e2
   obtain⟨rfl,rfl,rfl⟩:=e3
   obtain⟨x2,xu,hc⟩:=r1 _ _ _ FQ
   rw[hp]at xu
   simp only[Option.some.injEq,Prod.mk.injEq]at xu
   obtain⟨rfl,rfl⟩:=xu
   exact⟨by rw[eT],cC E hc⟩) hv
 refine⟨.agg iy,?_,h2.agg h3⟩
 have hb:P.built t ((ps.map fun(i,x)=>(i,a.eval x)).toList)=some iy:=by
  unfold Program.built
  simp only[hi,ht,sW,Hr]
  simpa using h1
 simp only[execOp,ho,Sem.run_bind,run_build w t _ _ hb,Result.andThen_ok,Sem.run_pure]
theorem sG:∀(vs:List AV) (sz i:Nat) (rs:List (List AV)) (cs:List AV),0<sz->cs.length=(i+vs.length)*sz->rowsOf sz vs=some rs->
  cw cs ((vs.zipIdx i).map fun(v,j)=>(j*sz,sz,v))=some (cs.take (i*sz)++rs.flatten)/\rs.length=vs.length/\(∀c∈rs,c.length=sz)/\∀c∈rs,∀x∈c,x.cell=true
 |[],sz,i,rs,cs,_,hl,h=>by
  simp[rowsOf]at h;subst h
  simp at hl
  simp[cw,List.take_of_length_le (show cs.length<=i*sz by omega)]
 |v::r,sz,i,rs,cs,eT,hl,h=>by
  simp only[rowsOf,Option.bind_eq_some_iff,Option.map_eq_some_iff]at h
  obtain⟨c,hc,rs',uZ,rfl⟩:=h
  unfold rowOf at hc
  split at hc
  ·rename_i wu
   simp at hc;subst hc
   obtain⟨od,Dr⟩:=wu
   simp only[List.length_cons]at hl
   have hmul:(i+(r.length+1))*sz=i*sz+sz+r.length*sz:=by rw[Nat.add_mul,Nat.add_mul];omega
   have ih:=sG r sz (i+1) rs' (cs.take (i*sz)++v.cells++cs.drop (i*sz+sz)) eT (by
    simp[od];rw[Nat.add_mul,Nat.add_mul];omega) uZ
   refine⟨?_,by simp[ih.2.1],?_,?_⟩
   ·simp only[List.zipIdx_cons,List.map_cons,cw]
    rw[if_pos ⟨od,ab,Dr⟩,ih.1]
    congr 1
    rw[List.flatten_cons,<-List.append_assoc]
    congr 1
    rw[Nat.add_mul,Nat.one_mul,List.take_append_of_le_length (by simp[od];omega)]
    rw[List.take_of_length_le (by simp[od];omega)]
   ·intro c' jM;rcases List.mem_cons.1 jM with rfl|jM
    ·exact od
    ·exact ih.2.2.1 c' jM
   ·intro c' jM;rcases List.mem_cons.1 jM with rfl|jM
    ·exact List.all_eq_true.1 Dr
    ·exact ih.2.2.2 c' jM
  ·simp at hc
theorem flat_get {α:Type} {mO:List (List α)} {sz:Nat} (h:∀cs∈mO,cs.length=sz) {i j:Nat} {cs:List α} {a:α} (hi:mO[i]? =some cs) (hj:cs[j]? =some a):mO.flatten[i*sz+j]? =some a:=by
 induction mO generalizing i with
 |nil=>simp at hi
 |cons c r ih=>
  have hc:c.length=sz:=h c (by simp)
  cases i with
  |zero=>
   simp at hi;subst hi
   have dD:=(List.getElem?_eq_some_iff.1 hj).1
   rw[List.flatten_cons,List.getElem?_append_left ab];simpa using hj
  |succ i=>
   rw[List.flatten_cons,List.getElem?_append_right (by rw[hc,Nat.succ_mul];omega)]
   have:(i+1)*sz+j-c.length=i*sz+j:=by rw[hc,Nat.succ_mul];omega
   rw[this]
   exact ih (fun cs dh=>h cs (List.mem_cons_of_mem _ dh)) (by simpa using hi)
theorem FA {α:Type} {mO:List (List α)} {sz:Nat} (h:∀cs∈mO,cs.length=sz):mO.flatten.length=mO.length*sz:=by
 induction mO with
 |nil=>simp
 |cons c r ih=>
  rw[List.flatten_cons,List.length_append,h c (by simp),ih (fun cs dh=>h cs (List.mem_cons_of_mem _ dh)),List.length_cons,Nat.succ_mul];omega
theorem nv {zv:Value} {z:List K} {n:Nat} (hm:zv.cells.toList.mapM DK=some z) (kC:0<z.length):∀k,k<n->∃c,z[k % z.length]? =some c/\((Array.range n).map (zv.cells[· % zv.cells.size]!))[k]? =some c.val:=by
 intro k hk
 obtain⟨h1,h2⟩:=pA hm
 have eT:zv.cells.size=z.length:=by simpa using h1.symm
 have dD:k % z.length<z.length:=Nat.mod_lt _ kC
 refine⟨z[k % z.length],List.getElem?_eq_getElem dD,?_⟩
 have h3:=h2 _ _ (List.getElem?_eq_getElem dD)
 simp only[Array.getElem?_toList]at h3
 have yF:k % z.length<zv.cells.size:=by rw[eT];exact dD
 rw[Array.getElem?_map,Array.getElem?_range,if_pos hk]
 simp only[Option.map_some]
 rw[eT,getElem!_pos zv.cells (k % z.length) yF]
 rw[Array.getElem?_eq_getElem yF]at h3
 exact h3
theorem Gh {t e:TypeId} {len sz:Nat} {ps:Array (Nat×Operand)} {z:List K} {l:List (Nat×O)} {rs:List (List AV)} (E:bt P w D ι env a) (ho:o.op=.buildSlice t len ps) (ht:P.underlying t=some (.slice e)) (eT:dw P e=some (sz+1)) (hz:iT P e=some z)
  (hl:qd P ps=some l) (Is:len*(sz+1)<=4096) (N2:l.map (·.1)=List.range len) (hv:rowsOf (sz+1) (l.map fun x=>cu env x.2)=some rs):Mk P a o w D ι id (.own id 0 len) ⟨true,sz+1,rs⟩:=by
 obtain⟨it,zv,hi,sW,hs,hm,Co⟩:=jf hz
 have iQ:it.size=sz+1:=by simpa[dw,hi]using eT
 obtain⟨n1,r1⟩:=ov E hl
 have r6:l.length=len:=by have:=congrArg List.length N2;simpa using this
 by_cases h0:len=0
 ·subst h0
  have Pg:l=[]:=List.length_eq_zero_iff.1 r6
  subst Pg
  simp[rowsOf]at hv;subst hv
  have Pm:ps= #[]:=by
   apply Array.ext';apply List.eq_nil_of_length_eq_zero;rw[<-n1];rfl
  subst Pm
  refine⟨.slice (some ⟨w.heap.size,0,none⟩) 0 0, #[],e,?_,rfl,by simp,by simp,by simp,fun i j cs x hi=>by simp at hi,fun ι' hι=>?_⟩
  ·simp[execOp,ho,Instr.buildSlice,run_underlying ht,sizeOf,typeInfo,hi,Instr.fill,newRow,Array.range_zero']
  ·exact .own _ 0 0 0 0 _ hι rfl (Nat.le_refl _) (.inl rfl) (by simp) (by simp[maxLen])
 ·have u7:eP P w D ι ((List.range (len*(sz+1))).map fun k=>(z.getD (k % z.length) .bE).av) ((Array.range (len*(sz+1))).map (zv.cells[· % zv.cells.size]!)):=by
   refine⟨by simp,fun j x hx=>?_⟩
   simp only[List.getElem?_map,Option.map_eq_some_iff]at hx
   obtain⟨k,hk,rfl⟩:=hx
   have kK:=(List.getElem?_eq_some_iff.1 hk).1
   simp at kK
   rw[List.getElem?_range kK]at hk
   injection hk with hk
   subst hk
   obtain⟨c,hc,hcv⟩:=nv hm (by rw[Co,iQ];omega) j kK
   exact⟨c.val,hcv,by rw[List.getD_eq_getElem?_getD,hc];exact tk c⟩
  obtain⟨f1,f2,f3,f4⟩:=sG (l.map fun x=>cu env x.2) (sz+1) 0 rs ((List.range (len*(sz+1))).map fun k=>(z.getD (k % z.length) .bE).av) ab (by simp[r6]) hv
  obtain⟨iy,h1,h2,h3,h4⟩:=sH (P:=P) (w:=w) (D:=D) (ι:=ι) (fun i=>some (i*it.size,it.size)) (ps.toList.map fun(i,x)=>(i,a.eval x)) _ _ _ _ u7
   (fun b hb=>by obtain⟨c,_,rfl⟩:=List.mem_map.1 hb;exact K.ll _) (by simp[n1]) (fun k i u o' n x qm sQ=>by
   simp only[List.getElem?_map,Option.map_eq_some_iff]at qm sQ
   obtain⟨⟨i',x'⟩,hp,e1⟩:=qm
   obtain⟨⟨v2,j2⟩,Ir,e2⟩:=sQ
   simp only[Prod.mk.injEq]at e1 e2
   obtain⟨rfl,rfl⟩:=e1
   obtain⟨rfl,rfl,rfl⟩:=e2
   rw[List.getElem?_zipIdx]at Ir
   simp only[List.getElem?_map,Option.map_map,Option.map_eq_some_iff,Function.comp_apply,Prod.mk.injEq,Nat.zero_add]at Ir
   obtain⟨⟨i2,y⟩,FQ,rfl,rfl⟩:=Ir
   obtain⟨x2,xu,hc⟩:=r1 _ _ _ FQ
   rw[hp]at xu
   simp only[Option.some.injEq,Prod.mk.injEq]at xu
   obtain⟨rfl,rfl⟩:=xu
   have uW:(l.map (·.1))[k]? =some i':=by rw[List.getElem?_map,FQ];rfl
   have kK:=(List.getElem?_eq_some_iff.1 uW).1
   rw[N2]at uW
   simp at kK
   rw[List.getElem?_range ab]at uW
   injection uW with uW
   subst uW
   exact⟨by rw[iQ],cC E hc⟩) f1
  simp only[Nat.zero_mul,List.take_zero,List.nil_append,List.length_map]at h2 h3 h4 f2
  have dh:iy.size=len*(sz+1):=by rw[h2.1,h4];simp
  refine⟨.slice (some ⟨w.heap.size,0,none⟩) len len,iy,e,?_,rfl,?_,f3,f4,fun i j cs x oW hj=>h2.2 _ _ (flat_get f3 oW hj),fun ι' hι=>?_⟩
  ·have gD:=run_buildSlice (P:=P) w t e len (ps.map fun(i,x)=>(i,a.eval x)) iy it zv ht hi sW (by rw[iQ];omega) (by rw[iQ];exact Nat.mul_ne_zero h0 ab) (by rw[<-iQ]at h1;simpa using h1)
   simp only[execOp,ho,Sem.run_bind,gD,Result.andThen_ok,Sem.run_pure]
  ·dsimp only;rw[f2,r6,dh];exact Nat.le_refl _
  ·refine .own _ 0 len 0 len _ hι rfl (Nat.le_refl _) (.inr (by simp)) ?_ (by simp only[maxLen];have:=Nat.le_mul_of_pos_right len (show 0<sz+1 by omega);omega)
   dsimp only;rw[dh];simp
theorem DW {t e:TypeId} {it:TypeInfo} {m:Nat} {z:List K} {l c:Operand} {l' c':O} {n:Nat} {r:Row} (E:bt P w D ι env a) (ho:o.op=.makeSlice t l c) (ht:P.underlying t=some (.slice e)) (eT:dw P e=some (m+1)) (hz:iT P e=some z) (Qz:P.info? e=some it) (hby:it.bytes<=32768)
  (hl:cO P l=some l') (hc:cO P c=some c') (hv:ik z (cu env l') (cu env c')=some (n,r)):Mk P a o w D ι id (.own id 0 n) r:=by
 obtain⟨it',zv,hi,sW,hs,hm,Co⟩:=jf hz
 rw[Qz]at hi;injection hi with hi;subst hi
 have iQ:it.size=m+1:=by simpa[dw,Qz]using eT
 unfold ik at hv
 split at hv
 ·rename_i k1 ln k2 cn e1 e2
  split at hv
  ·rename_i hb
   obtain⟨b1,b2,b3⟩:=hb
   simp at hv
   obtain⟨rfl,rfl⟩:=hv
   have r1:=db (e1▸cC E hl)
   have r2:=db (e2▸cC E hc)
   unfold dI at b3
   have Jy:(it.bytes:Int)*cn<=281474976710656:=by
    have h1:(it.bytes:Int)<=32768:=ab
    have h2:(it.bytes:Int)*cn<=32768*16777216:=Int.mul_le_mul h1 ab ab ab
    omega
   have gD:=run_make (P:=P) w t e it zv ht Qz sW k1 k2 ln cn b1 b2 Jy ab
   have jz:∀k,k<cn.toNat*it.size->∃x,z[k % z.length]? =some x/\(madeCells zv.cells (cn.toNat*it.size))[k]? =some x.val:=fun k hk=>nv hm (by rw[Co,iQ];omega) k hk
   refine⟨.slice (some ⟨w.heap.size,0,none⟩) ln.toNat cn.toNat,madeCells zv.cells (cn.toNat*it.size),e,by simp only[execOp,ho,r1,r2,Sem.run_bind,gD,Result.andThen_ok,Sem.run_pure],rfl,?_,?_,?_,?_,fun ι' hι=>?_⟩
   ·simp only[List.length_replicate,size_madeCells,Co]
    exact Nat.mul_le_mul_right _ ab
   ·intro cs dh
    have:=List.eq_of_mem_replicate dh
    subst this;simp
   ·intro cs dh x hx
    have:=List.eq_of_mem_replicate dh
    subst this
    obtain⟨c,_,rfl⟩:=List.mem_map.1 hx;exact c.ll
   ·intro i j cs x oW hj
    have oe:=(List.getElem?_eq_some_iff.1 oW).1
    have:=List.eq_of_mem_replicate (List.mem_of_getElem? oW)
    subst this
    simp only[List.length_replicate]at oe
    simp only[List.getElem?_map,Option.map_eq_some_iff]at hj
    obtain⟨q,hq,rfl⟩:=hj
    have gn:=(List.getElem?_eq_some_iff.1 hq).1
    dsimp only
    obtain⟨x,hx,xu⟩:=jz (i*z.length+j) (by
     rw[<-Co]
     calc i*z.length+j<i*z.length+z.length:=ab
      _=(i+1)*z.length:=by rw[Nat.add_mul,Nat.one_mul]
      _<=cn.toNat*z.length:=Nat.mul_le_mul_right _ ab)
    rw[Nat.mul_comm i,Nat.mul_add_mod,Nat.mod_eq_of_lt gn,hq]at hx
    injection hx with hx;subst hx
    exact⟨_,by rw[Nat.mul_comm i]at xu ⊢;exact xu,tk q⟩
   ·refine .own _ 0 _ 0 _ _ hι rfl ab (.inr (by simp)) ?_ (by simp only[maxLen];omega)
    dsimp only;rw[size_madeCells,Co];simp
  ·simp at hv
 ·simp at hv
end
end Go.Proofs.YtihgaadadaekmaaGreatDoor.V

namespace Go.Proofs.YtihgaadadaekmaaGreatDoor.V
open Go.RowKit
variable {P:Program} {w w':World} {D D':Nat->Prop} {ι ι':Names}
def BO (P:Program) (k:TypeId) (m:MK):Prop:=
 (∃s,m=⟨false,[s]⟩/\eL P k=some s)∨
 (∃fs ts,m=⟨true,ts⟩/\P.underlying k=some (.struct fs)/\dN P 4 0 fs.toList=some ts/\P.stoodInHeld k=false/\∀f∈fs.toList,(eL P f.type).isSome=true)
theorem o9 {t:TypeId} {m:MK} {z:K} (h:qc P t=some (m,z)):∃k e i zv,P.underlying t=some (.map k e)/\P.info? e=some i/\i.zero=some zv/\DK zv=some z/\BO P k m:=by
 unfold qc at h
 split at h
 ·rename_i k e ht
  split at h
  ·rename_i zv s h1 h2 h3
   simp only[Option.map_eq_some_iff,Prod.mk.injEq]at h
   obtain⟨z',hz,rfl,rfl⟩:=h
   simp only[Option.bind_eq_some_iff]at h2
   obtain⟨i,hi,sW⟩:=h2
   exact⟨k,e,i,zv,ht,hi,sW,hz,.inl ⟨s,rfl,h3⟩⟩
  ·rename_i zv fs h1 h2 h3 h4
   split at h
   ·rename_i ts z' uq hz
    split at h
    ·rename_i hc
     simp only[Option.some.injEq,Prod.mk.injEq]at h
     obtain⟨rfl,rfl⟩:=h
     simp only[Option.bind_eq_some_iff]at h2
     obtain⟨i,hi,sW⟩:=h2
     simp only[Bool.not_eq_true',List.all_eq_true]at hc
     exact⟨k,e,i,zv,ht,hi,sW,hz,.inr ⟨fs,ts,rfl,h4,uq,hc.1,hc.2⟩⟩
    ·cases h
   ·cases h
  ·cases h
 ·cases h
theorem tr {t:TypeId} {s:TS} (ht:eL P t=some s) (em:Bool) (n:Nat) (v:Value):(Instr.checkKey em (n+1) t v).run P w=.ok () w:=by
 unfold Instr.checkKey
 cases s with
 |tB=>simp[run_underlying (nG ht)]
 |tS=>simp[run_underlying (nI ht)]
 |tI=>
  obtain⟨q,hq⟩:=nH ht
  simp[run_underlying hq]
theorem tt (em:Bool) (n:Nat) (vs:Array Value):∀(d:Nat) (fs:List Field) (off:Nat) (ts:List TS),dN P (d+1) off fs=some ts->(∀f∈fs,(eL P f.type).isSome=true)->off+ts.length<=vs.size->
  Sem.run P (forIn fs PUnit.unit fun f (_:PUnit)=>if f.name≠ "_" then do
    let x <-Go.part f.type vs f.offset
    Instr.checkKey em (n+1) f.type x
    pure (ForInStep.yield PUnit.unit)
   else pure (ForInStep.yield PUnit.unit)) w=Result.ok PUnit.unit w
 |d,[],off,ts,_,_,_=>by simp
 |d,f::r,off,ts,hf,hs,hl=>by
  rw[uS]at hf
  split at hf
  ·rename_i hcond
   obtain⟨ho,gF⟩:=hcond
   split at hf
   ·rename_i s MC
    split at hf
    ·rename_i rZ
     simp only[Option.map_eq_some_iff]at hf
     obtain⟨J2,hr,rfl⟩:=hf
     simp only[List.length_cons]at hl
     have ih:=tt em n vs d r (off+1) J2 hr (fun f hf=>hs f (List.mem_cons_of_mem _ hf)) ab
     have hu:vs[off]? =some vs[off]:=by simp
     simp only[List.forIn_cons,Sem.run_bind,if_pos gF,ho,k6 rZ hu,Result.andThen_ok,tr MC,Sem.run_pure]
     exact ih
    ·cases hf
   ·rename_i hn
    have:=hs f (by simp)
    rw[hn]at this;cases this
  ·cases hf
theorem Bo {k:TypeId} {m:MK} (hk:BO P k m) (em:Bool) (key:AV) (u:Value) (rZ:key.isAgg=m.ka) (hlen:key.cells.length=m.ks) (hr:cv P w D ι key u):(Instr.checkKey em 10000 k u).run P w=.ok () w:=by
 rcases hk with⟨s,rfl,hs⟩|⟨fs,ts,rfl,ph,uq,dS,cN⟩
 ·exact tr hs em 9999 u
 ·cases key<;>simp[AV.isAgg]at rZ
  rename_i cs
  obtain⟨vs,f,rfl,h1,_⟩:=gT hr
  unfold Instr.checkKey
  simp only[Sem.run_bind,run_underlying ph,Result.andThen_ok]
  rw[<-Array.forIn_toList]
  have h:=tt (P:=P) (w:=w) em 9998 vs 3 fs.toList 0 ts uq cN (by simp[AV.cells,MK.ks]at hlen;omega)
  rw[h]
  rfl
theorem E8 (a b:ByteArray):(a==b)=decide (a=b):=by
 by_cases h:a=b
 ·subst h;rw[decide_eq_true rfl]
  obtain⟨x⟩:=a
  show(x==x)=true
  simp
 ·rw[decide_eq_false h,Bool.eq_false_iff]
  intro hc
  obtain⟨x⟩:=a
  obtain⟨y⟩:=b
  exact h (by rw[show x=y by simpa using(show(x==y)=true from hc)])
theorem GM {t:TypeId} {s:TS} {x y:AV} {u v:Value} {b:Bool} {d:TypeDesc} (ht:eL P t=some s) (hd:P.underlying t=some d) (he:fW s x y=some b) (hx:cv P w D ι x u) (hy:cv P w D ι y v):Instr.sameNow d u v=some b:=by
 unfold fW at he
 split at he
 ·rename_i k n k' n'
  split at he
  ·rename_i hk
   subst hk
   simp at he;subst he
   obtain⟨q,hq⟩:=nH ht
   rw[hd]at hq;injection hq with hq;subst hq
   rw[db hx,db hy]
   simp[Instr.sameNow]
   rfl
  ·cases he
 ·simp at he;subst he
  have hq:=nG ht
  rw[hd]at hq;injection hq with hq;subst hq
  rw[eH hx,eH hy];rfl
 ·rename_i a c
  simp at he;subst he
  have hq:=nI ht
  rw[hd]at hq;injection hq with hq;subst hq
  rw[eU hx,eU hy]
  simp only[Instr.sameNow,E8]
 ·cases he
def Found (es:List MapEntry) (i:Nat) (r:Option Nat) (res:Option (Nat×Value)):Prop:=(r=none/\res=none)∨∃j e,r=some (i+j)/\es[j]? =some e/\res=some (i+j,e.val)
theorem sJ {e:MapEntry} {es:List MapEntry} {i:Nat} {r:Option Nat} {res:Option (Nat×Value)} (h:Found es (i+1) r res):Found (e::es) i r res:=by
 rcases h with h|⟨j,x,h1,h2,h3⟩
 ·exact .inl h
 ·exact .inr ⟨j+1,x,by rw[h1];congr 1;omega,by simpa using h2,by rw[h3];congr 2;omega⟩
theorem yh {t:TypeId} {s:TS} {d:TypeDesc} {x:AV} {u:Value} (ht:eL P t=some s) (hd:P.underlying t=some d) (hx:cv P w D ι x u):∀(rows:List (List AV)) (es:List MapEntry) (i:Nat) (r:Option Nat),es.length=rows.length->
  (∀(j:Nat) (cs:List AV),rows[j]? =some cs->∃(e:MapEntry) (kv:AV),es[j]? =some e/\cs.head? =some kv/\cv P w D ι kv e.key)->gG ⟨false,[s]⟩ [x] rows i=some r->∃res,Instr.findNow d u es i=some res/\Found es i r res
 |[],[],i,r,_,_,h=>by
  simp[gG]at h;subst h
  exact⟨none,rfl,.inl ⟨rfl,rfl⟩⟩
 |[],e::es,i,r,hl,_,h=>by simp at hl
 |cs::rows,[],i,r,hl,_,h=>by simp at hl
 |cs::rows,e::es,i,r,hl,hr,h=>by
  obtain⟨e',kv,H7,hk,fY⟩:=hr 0 cs rfl
  simp at H7;subst H7
  have dh:cs.take (MK.ks ⟨false,[s]⟩)=[kv]:=by
   cases cs with
   |nil=>simp at hk
   |cons a l=>simp at hk;subst hk;simp[MK.ks]
  unfold gG at h
  rw[dh]at h
  cases hq:fW s x kv with
  |none=>simp[eZ,hq]at h
  |some b=>
   have hs:=GM ht hd hq hx fY
   cases b with
   |true=>
    simp[eZ,hq]at h;subst h
    exact⟨some (i,e.val),by simp[Instr.findNow,hs],.inr ⟨0,e,rfl,rfl,rfl⟩⟩
   |false=>
    simp[eZ,hq]at h
    obtain⟨res,h1,h2⟩:=yh ht hd hx rows es (i+1) r (by simpa using hl) (fun j cs hj=>hr (j+1) cs (by simpa using hj)) h
    exact⟨res,by simp[Instr.findNow,hs,h1],sJ h2⟩
theorem og {t:TypeId} {fs:Array Field} {ts:List TS} {xs ys:List AV} {vs us:Array Value} {b:Bool} (ph:P.underlying t=some (.struct fs)) (dS:P.stoodInHeld t=false) (uq:dN P 4 0 fs.toList=some ts) (hx:eP P w D ι xs vs) (hy:eP P w D ι ys us) (hv:eZ ts xs ys=some b):(Op.equal t (.agg vs) (.agg us)).run P w=.ok b w:=by
 obtain⟨l1,l2⟩:=pd hv
 have q:=pH (w:=w) 4 fs.toList 0 ts uq 9998 ab xs ys vs us b hx hy (by simpa[List.take_of_length_le,l1,l2]using hv)
 have JC:P.fieldsOf t=fs:=by simp[Program.fieldsOf,ph]
 unfold Op.equal
 rw[show Op.maxDepth=9999+1 from rfl,run_equalIn_struct w 9999 t _ _ (by rw[JC];exact ph) dS,JC,q]
theorem pE {cs:List AV} {v:Value} (h:cv P w D ι (.agg cs) v):∃vs,v=.agg vs/\eP P w D ι cs vs:=by
 obtain⟨vs,f,rfl,n1,_,f1,r1⟩:=gT h
 exact⟨vs,rfl,n1,fun j a ha=>⟨f j,f1 j (List.getElem?_eq_some_iff.1 ha).1,r1 j a ha⟩⟩
theorem yg {t:TypeId} {fs:Array Field} {ts:List TS} {xs:List AV} {vs:Array Value} (ph:P.underlying t=some (.struct fs)) (dS:P.stoodInHeld t=false) (uq:dN P 4 0 fs.toList=some ts) (hx:eP P w D ι xs vs):∀(rows:List (List AV)) (es:List MapEntry) (i:Nat) (r:Option Nat),es.length=rows.length->
  (∀(j:Nat) (cs:List AV),rows[j]? =some cs->∃e:MapEntry,es[j]? =some e/\cv P w D ι (.agg (cs.take ts.length)) e.key)->gG ⟨true,ts⟩ xs rows i=some r->∃res,(Instr.findAsking t (.agg vs) es i).run P w=.ok res w/\Found es i r res
 |[],[],i,r,_,_,h=>by
  simp[gG]at h;subst h
  exact⟨none,by simp[Instr.findAsking],.inl ⟨rfl,rfl⟩⟩
 |[],e::es,i,r,hl,_,h=>by simp at hl
 |cs::rows,[],i,r,hl,_,h=>by simp at hl
 |cs::rows,e::es,i,r,hl,hr,h=>by
  obtain⟨e',H7,fY⟩:=hr 0 cs rfl
  simp at H7;subst H7
  obtain⟨us,hk,hy⟩:=pE fY
  unfold gG at h
  simp only[MK.ks]at h
  split at h
  ·rename_i hq
   simp at h;subst h
   have q:=og ph dS uq hx hy hq
   exact⟨some (i,e.val),by simp[Instr.findAsking,hk,q],.inr ⟨0,e,rfl,rfl,rfl⟩⟩
  ·rename_i hq
   have q:=og ph dS uq hx hy hq
   obtain⟨res,h1,h2⟩:=yg ph dS uq hx rows es (i+1) r (by simpa using hl) (fun j cs hj=>hr (j+1) cs (by simpa using hj)) h
   exact⟨res,by simp[Instr.findAsking,hk,q,h1],sJ h2⟩
  ·cases h
theorem sD {a:AV} (h:a.isAgg=false):a.cells=[a]:=by cases a<;>simp_all [AV.isAgg,AV.cells]
theorem sI {k:TypeId} {m:MK} {B:qG} {r:Row} (hk:BO P k m) {key:AV} {u:Value} (hr:cv P w D ι key u) {es:Array MapEntry} (eT:es.size=r.rows.length)
  (hM:∀(i:Nat) (cs:List AV),r.rows[i]? =some cs->∃(e:MapEntry) (kv vv:AV),es[i]? =some e/\part m.ka m.ks cs=some kv/\cs[m.ks]? =some vv/\cv P w D ι kv e.key/\cv P w D ι vv e.val) {fi:Option Nat} (h:gw m key r.rows=some fi):
  (∀em,(Instr.checkKey em 10000 k u).run P w=.ok () w)/\∃res,(Instr.findKey k u es.toList).run P w=.ok res w/\Found es.toList 0 fi res:=by
 unfold gw at h
 split at h
 ·rename_i hc
  obtain⟨c1,c2,c3⟩:=hc
  refine⟨fun em=>Bo hk em key u c1 c2 hr,?_⟩
  rcases hk with⟨s,rfl,hs⟩|⟨fs,ts,rfl,ph,uq,dS,cN⟩
  ·rw[sD c1]at h
   have hd:∃d,P.underlying k=some d:=by
    cases s with
    |tB=>exact⟨_,nG hs⟩
    |tS=>exact⟨_,nI hs⟩
    |tI=>obtain⟨q,hq⟩:=nH hs;exact⟨_,hq⟩
   obtain⟨d,hd⟩:=hd
   obtain⟨res,h1,h2⟩:=yh hs hd hr r.rows es.toList 0 fi (by simpa using eT) (fun j cs hj=>by
    obtain⟨e,kv,vv,q1,q2,_,q4,_⟩:=hM j cs hj
    exact⟨e,kv,by simpa using q1,by simpa[part]using q2,q4⟩) h
   exact⟨res,by simp[Instr.findKey,run_underlying hd,h1],h2⟩
  ·cases key<;>simp[AV.isAgg]at c1
   rename_i cs
   obtain⟨vs,rfl,hL⟩:=pE hr
   obtain⟨res,h1,h2⟩:=yg ph dS uq hL r.rows es.toList 0 fi (by simpa using eT) (fun j cs hj=>by
    obtain⟨e,kv,vv,q1,q2,_,q4,_⟩:=hM j cs hj
    unfold part at q2
    simp only[if_true]at q2
    split at q2
    ·simp only[Option.some.injEq]at q2;subst q2
     exact⟨e,by simpa using q1,q4⟩
    ·cases q2) h
   exact⟨res,(run_findKey_eq w (by simp[ph]) _ _).trans h1,h2⟩
 ·cases h
section
variable {g:Rows} {hs:Nat} {env:Env} {a:Act} {o:Oper} {id:Id} {v:AV}
theorem wN {m:MK} {x:AV} {u:Value} {p:Id×Row} (S:fG P hs D ι g w) (hr:cv P w D ι x u) (h:dY g m x=some p):∃B,u=.map (some B.b)/\g p.1=some p.2/\ι p.1=some B/\B.k=some (.map m)/\Jo P w D ι B m p.2:=by
 unfold dY at h
 split at h
 ·rename_i i m'
  split at h
  ·rename_i hm
   subst hm
   simp only[Option.map_eq_some_iff]at h
   obtain⟨r,hg,rfl⟩:=h
   obtain⟨B,rfl,hB,hk⟩:=I5 hr
   obtain⟨B',dk,R,_⟩:=S.row i r hg
   rw[hB]at dk;injection dk with dk;subst dk
   exact⟨B,rfl,hg,hB,hk,(R.map _ hk).2⟩
  ·cases h
 ·cases h
theorem L9 {t:TypeId} {x k:Operand} {ok:Bool} {m:MK} {z:K} {x' k':O} {mr:Option Row} (S:fG P hs D ι g w) (E:bt P w D ι env a) (ho:o.op=.lookup t x k ok) (hc:qc P t=some (m,z)) (hx:cO P x=some x') (hk:cO P k=some k')
  (hv:bB (.look m ok z) [cu env x',cu env k'] g id=some (v,mr)):mr=none/\mD P a o w D ι v:=by
 obtain⟨kt,e,i,zv,ht,hi,sW,Pf,hK⟩:=o9 hc
 simp only[bB,Option.bind_eq_some_iff,Option.map_eq_some_iff,Prod.mk.injEq]at hv
 obtain⟨p,hp,fi,JB,y,hy,rfl,rfl⟩:=hv
 obtain⟨B,hu,hg,hB,rY,es,clock,hb,eT,hlen,hM⟩:=wN S (cC E hx) hp
 obtain⟨Hn,res,hf,hF⟩:=sI (B:=B) hK (cC E hk) eT hM JB
 have key:∃val,(match res with|some (_,v)=>(v,true)|none=>(zv,false))=(val,fi.isSome)/\cv P w D ι y val:=by
  rcases hF with⟨rfl,rfl⟩|⟨j,en,rfl,he,rfl⟩
  ·simp only[eh,Option.some.injEq]at hy;subst hy
   refine⟨zv,rfl,?_⟩
   rw[wG Pf];exact tk z
  ·simp only[eh,Option.bind_eq_some_iff,Nat.zero_add]at hy
   obtain⟨cs,dh,hy⟩:=hy
   obtain⟨e',kv,vv,q1,_,q3,_,q5⟩:=hM _ cs dh
   rw[hy]at q3;injection q3 with q3;subst q3
   have:e'=en:=by
    have h1:es.toList[j]? =some e':=by simpa using q1
    rw[he]at h1;injection h1 with h1;exact h1.symm
   subst this
   exact⟨_,rfl,q5⟩
 obtain⟨val,oJ,kM⟩:=key
 have dW:(getObj B.b).run P w=.ok (.map es clock) w:=MapKept.run_getObj_map hb
 have hz:(zeroValue e).run P w=.ok zv w:=by simp[zeroValue,typeInfo,hi,sW]
 refine⟨rfl,if ok then .tuple #[val,.bool fi.isSome]else val,?_,?_⟩
 ·simp only[execOp,ho,hu,Instr.lookup,Sem.run_bind,run_underlying ht,Result.andThen_ok,dW,Sem.run_pure,Hn,hf]
  rcases hF with⟨rfl,rfl⟩|⟨j,en,rfl,he,rfl⟩
  ·simp only[Prod.mk.injEq]at oJ
   simp[hz,oJ.1]
  ·simp only[Prod.mk.injEq]at oJ
   simp[oJ.1]
 ·cases ok with
  |false=>exact kM
  |true=>
   refine .gU _ _ (fun j=>if j=0 then val else .bool fi.isSome) rfl (fun j hj=>?_) (fun j b hj=>?_)
   ·have:j=0∨j=1:=by simp at hj;omega
    rcases this with rfl|rfl<;>rfl
   ·match j,hj with
    |0,hj=>simp at hj;subst hj;exact kM
    |1,hj=>simp at hj;subst hj;exact .ew _ _ (.bool _)
    |j+2,hj=>simp at hj
theorem Mc {t:TypeId} {x:Operand} {m:MK} {z:K} {x':O} {mr:Option Row} (S:fG P hs D ι g w) (E:bt P w D ι env a) (ho:o.op=.call {callee:=.builtin .len,args:= #[x],argTypes:= #[t]}) (hc:qc P t=some (m,z)) (hx:cO P x=some x')
  (hv:bB (.len m) [cu env x'] g id=some (v,mr)):mr=none/\mD P a o w D ι v:=by
 obtain⟨kt,e,i,zv,ht,hi,sW,Pf,hK⟩:=o9 hc
 simp only[bB,Option.map_eq_some_iff,Prod.mk.injEq]at hv
 obtain⟨p,hp,rfl,rfl⟩:=hv
 obtain⟨B,hu,hg,hB,rY,es,clock,hb,eT,hlen,hM⟩:=wN S (cC E hx) hp
 have dW:(getObj B.b).run P w=.ok (.map es clock) w:=MapKept.run_getObj_map hb
 refine⟨rfl,.int .i64 (es.size:Int),?_,by rw[eT];exact .ew _ _ (.int _ _)⟩
 simp only[execOp,ho,resolve,Sem.run_bind,Sem.run_pure,Result.andThen_ok,invoke,builtin,Array.map,hu]
 simp[Builtin.len_,run_underlying ht,goInt,hu,dW]
def MkM (P:Program) (a:Act) (o:Oper) (w:World) (id:Id) (v:AV) (r:Row):Prop:=
 ∃m,(execOp a.eval o).run P w=.ok (.value (.map (some w.heap.size))) (w.alloc (.map #[] 0))/\v=.map id m/\r=⟨true,m.Bn,[]⟩
theorem Ol {t:TypeId} {m:MK} (ho:o.op=.makeMap t none):MkM P a o w id (.map id m) ⟨true,m.Bn,[]⟩:=by
 refine⟨m,?_,rfl,rfl⟩
 simp[execOp,ho,Instr.makeMap,go_sem]
def MkC (P:Program) (a:Act) (o:Oper) (w:World) (id:Id) (v:AV) (r:Row):Prop:=
 ∃n,(execOp a.eval o).run P w=.ok (.value (.chan (some w.heap.size))) (w.alloc (.chan n #[] false 0 0 false))/\v=.qf id/\r=⟨true,pc+n,[]⟩
theorem Lu {t e:TypeId} {x:Operand} {x':O} {dir:ChanDir} {i:TypeInfo} {n:Nat} (E:bt P w D ι env a) (ho:o.op=.makeChan t x) (ht:P.underlying t=some (.chan dir e)) (hi:P.info? e=some i) (hb:i.bytes<=32768) (hx:cO P x=some x') (hn:cW (cu env x')=some n):MkC P a o w id (.qf id) ⟨true,pc+n,[]⟩:=by
 refine⟨n,?_,rfl,rfl⟩
 have hr:=cC E hx
 unfold cW at hn
 split at hn
 ·rename_i k m hm
  rw[hm]at hr
  split at hn
  ·rename_i hc
   simp only[Option.some.injEq]at hn
   subst hn
   have JI:((m.toNat:Nat):Int)=m:=ab
   have dD:(i.bytes:Int)*(m.toNat:Nat)<=281474976710544:=by
    have h1:i.bytes*m.toNat<=32768*1048576:=Nat.mul_le_mul hb ab
    have h2:((i.bytes*m.toNat:Nat):Int)<=281474976710544:=ab
    rwa [Int.natCast_mul]at h2
   have h:=Conc.run_makeChan (P:=P) (w:=w) ht hi k m.toNat ab dD
   rw[JI]at h
   simp only[execOp,ho,db hr,Sem.run_bind,h,Result.andThen_ok,Sem.run_pure]
  ·cases hn
 ·cases hn
theorem vY {x:AV} {u:Value} {i:Id} {r:Row} (S:fG P hs D ι g w) (hr:cv P w D ι x u) (hx:x=.qf i) (hg:g i=some r):∃B c,u=.chan (some B.b)/\ι i=some B/\B.k=some (.chan c)/\r.sz=pc+c/\EW P w D ι B c r:=by
 subst hx
 obtain⟨B,c,rfl,hB,hk⟩:=I3 hr
 obtain⟨B',dk,R,_⟩:=S.row i r hg
 rw[hB]at dk;injection dk with dk;subst dk
 exact⟨B,c,rfl,hB,hk,R.chan c hk⟩
theorem L6 {t e:TypeId} {dir:ChanDir} {x:Operand} {x':O} (S:fG P hs D ι g w) (E:bt P w D ι env a) (ho:o.op=.call {callee:=.builtin .len,args:= #[x],argTypes:= #[t]}) (ht:P.underlying t=some (.chan dir e)) (hx:cO P x=some x') (hv:cU g (cu env x')=some v):mD P a o w D ι v:=by
 have hr:=cC E hx
 unfold cU at hv
 split at hv
 ·rename_i i he
  simp only[Option.map_eq_some_iff]at hv
  obtain⟨r,hg,rfl⟩:=hv
  obtain⟨B,c,hu,hB,hk,eT,buf,s,q,hb,Hm,_⟩:=vY S hr he hg
  have dW:(getObj B.b).run P w=.ok (.chan c buf false s q false) w:=by simp[getObj,Sem.run,hb]
  refine⟨.int .i64 (buf.size:Int),?_,by rw[Hm];exact .ew _ _ (.int _ _)⟩
  simp only[execOp,ho,resolve,Sem.run_bind,Sem.run_pure,Result.andThen_ok,invoke,builtin,Array.map,hu]
  simp[Builtin.len_,run_underlying ht,goInt,hu,dW]
 ·cases hv
end
end Go.Proofs.YtihgaadadaekmaaGreatDoor.V

namespace Go.Proofs.YtihgaadadaekmaaGreatDoor.V
open Go.RowKit
variable {P:Program} {w w':World} {D D':Nat->Prop} {ι ι':Names}
def HF (P:Program) (a:Act) (o:Oper) (w:World) (D:Nat->Prop) (ι:Names) (id:Id) (v:AV):Option Row->Prop
 |none=>mD P a o w D ι v
 |some r=>Mk P a o w D ι id v r∨MkM P a o w id v r∨MkC P a o w id v r
section
variable {g:Rows} {hs:Nat} {env:Env} {a:Act} {o:Oper} {id:Id} {v:AV}
theorem kg {x:Option AV} {mr:Option Row} (h:x.map (·,(none:Option Row))=some (v,mr)) (H:x=some v->mD P a o w D ι v):HF P a o w D ι id v mr:=by
 cases x with
 |none=>simp at h
 |some y=>simp at h;obtain⟨rfl,rfl⟩:=h;exact H rfl
theorem Ow {neg:Bool} {t yt:TypeId} {x y:Operand} {vo:fB} {mr:Option Row} (ho:o.op=.binOp (if neg then .neq else .eql) t x y yt) (hc:qb P neg t x y=some vo) (hq:eF vo (cu env) g id=some (v,mr)) (E:bt P w D ι env a):HF P a o w D ι id v mr:=by
 unfold qb at hc
 split at hc
 ·split at hc
  ·rename_i e ht
   simp only[Option.map_eq_some_iff]at hc
   obtain⟨x',hx,rfl⟩:=hc
   simp only[eF,ep,Bool.false_eq_true,if_false,Option.map_eq_some_iff,Prod.mk.injEq]at hq
   obtain⟨b,hb,rfl,rfl⟩:=hq
   exact L2 E ho ht hx hb
  ·simp at hc
 ·split at hc
  ·rename_i ht
   simp only[Option.map_eq_some_iff]at hc
   obtain⟨x',hx,rfl⟩:=hc
   simp only[eF,ep,if_true,Option.map_eq_some_iff,Prod.mk.injEq]at hq
   obtain⟨b,hb,rfl,rfl⟩:=hq
   exact L1 E ho ht hx hb
  ·simp at hc
 ·split at hc
  ·rename_i ht
   simp only[Option.map_eq_some_iff]at hc
   obtain⟨x',hx,rfl⟩:=hc
   simp only[eF,Option.map_eq_some_iff,Prod.mk.injEq]at hq
   obtain⟨b,hb,rfl,rfl⟩:=hq
   exact OJ E ho ht hx hb
  ·simp at hc
 ·split at hc
  ·rename_i s hs
   simp only[Option.bind_eq_bind,Option.bind_eq_some_iff,Option.pure_def,Option.some.injEq]at hc
   obtain⟨x',hx,y',hy,rfl⟩:=hc
   simp only[eF,Option.map_eq_some_iff,Prod.mk.injEq]at hq
   obtain⟨b,hb,rfl,rfl⟩:=hq
   have yI:eL P t=some s:=by
    unfold PL at hs
    split at hs
    ·rename_i s' h;simp at hs;subst hs;exact h
    ·split at hs
     ·split at hs
      ·simp at hs
      ·simp at hs
     ·simp at hs
   exact OK E ho yI hx hy hb
  ·rename_i ts hs
   simp only[Option.bind_eq_bind,Option.bind_eq_some_iff,Option.pure_def,Option.some.injEq]at hc
   obtain⟨x',hx,y',hy,rfl⟩:=hc
   simp only[eF]at hq
   split at hq
   ·rename_i xs ys h1 h2
    simp only[Option.map_eq_some_iff,Prod.mk.injEq]at hq
    obtain⟨b,hb,rfl,rfl⟩:=hq
    unfold PL at hs
    split at hs
    ·simp at hs
    ·split at hs
     ·rename_i fs ph
      split at hs
      ·rename_i hg
       simp only[Option.map_eq_some_iff,PD.ag.injEq]at hs
       obtain⟨J2,uq,rfl⟩:=hs
       simp only[Bool.and_eq_true,Bool.not_eq_true']at hg
       exact OI E ho ph hg.1 hg.2 uq hx hy h1 h2 hb
      ·simp at hs
     ·simp at hs
   ·simp at hq
  ·simp at hc
theorem LD {c:Call} {vo:fB} {mr:Option Row} (ho:o.op=.call c) (hc:lW P c=some vo) (hq:eF vo (cu env) g id=some (v,mr)) (S:fG P hs D ι g w) (E:bt P w D ι env a):HF P a o w D ι id v mr:=by
 unfold lW at hc
 split at hc
 ·rename_i jC
  split at hc
  ·rename_i x t h1 h2
   have hce:c={callee:=.builtin .len,args:= #[x],argTypes:= #[t]}:=by
    obtain⟨a,b,c⟩:=c
    simp only at h1 h2 jC
    subst jC
    congr
    ·exact Array.ext' h1
    ·exact Array.ext' h2
   rw[hce]at ho
   split at hc
   ·rename_i e ht
    simp only[Option.map_eq_some_iff]at hc
    obtain⟨x',hx,rfl⟩:=hc
    simp only[eF,Option.map_eq_some_iff,Prod.mk.injEq]at hq
    obtain⟨n,hn,rfl,rfl⟩:=hq
    exact OL E ho ht hx hn
   ·rename_i ht
    simp only[Option.map_eq_some_iff]at hc
    obtain⟨x',hx,rfl⟩:=hc
    exact kg hq fun h=>L7 E ho ht hx h
   ·split at hc
    ·rename_i m z x' hm hx
     simp only[Option.some.injEq]at hc
     subst hc
     obtain⟨rfl,h⟩:=Mc (id:=id) S E ho hm hx hq
     exact h
    ·cases hc
   ·rename_i ht
    simp only[Option.map_eq_some_iff]at hc
    obtain⟨x',hx,rfl⟩:=hc
    exact kg hq fun h=>L6 S E ho ht hx h
   ·simp at hc
  ·simp at hc
 ·split at hc
  ·split at hc
   ·split at hc
    ·split at hc
     ·simp only[Option.bind_eq_bind,Option.bind_eq_some_iff,Option.pure_def,Option.some.injEq]at hc
      obtain⟨x',hx,y',hy,rfl⟩:=hc
      simp[eF]at hq
     ·simp at hc
    ·simp at hc
   ·simp at hc
  ·simp at hc
 ·split at hc
  ·split at hc
   ·split at hc
    ·simp only[Option.map_eq_some_iff]at hc
     obtain⟨x',hx,rfl⟩:=hc
     simp[eF]at hq
    ·simp at hc
   ·simp at hc
  ·simp at hc
 ·split at hc
  ·simp only[Option.map_eq_some_iff]at hc
   obtain⟨x',hx,rfl⟩:=hc
   simp[eF]at hq
  ·simp at hc
 ·simp only[Option.map_eq_some_iff]at hc
  obtain⟨x',hx,rfl⟩:=hc
  simp[eF]at hq
 ·split at hc
  ·split at hc
   ·simp only[Option.some.injEq]at hc
    subst hc
    simp[eF]at hq
   ·cases hc
  ·cases hc
 ·split at hc
  ·split at hc
   ·split at hc
    ·simp only[Option.bind_eq_bind,Option.bind_eq_some_iff,Option.pure_def,Option.some.injEq]at hc
     obtain⟨x',hx,y',hy,rfl⟩:=hc
     simp[eF]at hq
    ·simp at hc
   ·simp at hc
  ·simp at hc
 ·simp at hc
theorem vD {vo:fB} {mr:Option Row} (hc:oR P o.op=some vo) (hq:eF vo (cu env) g id=some (v,mr)) (S:fG P hs D ι g w) (E:bt P w D ι env a):HF P a o w D ι id v mr:=by
 unfold oR at hc
 split at hc
 ·rename_i ho
  simp only[Option.map_eq_some_iff]at hc
  obtain⟨x',hx,rfl⟩:=hc
  simp[eF]at hq;obtain⟨rfl,rfl⟩:=hq
  exact J4 E (.inl ho) hx
 ·rename_i ho
  simp only[Option.map_eq_some_iff]at hc
  obtain⟨x',hx,rfl⟩:=hc
  simp[eF]at hq;obtain⟨rfl,rfl⟩:=hq
  exact J4 E (.inr ho) hx
 ·rename_i ho
  simp only[Option.bind_eq_bind,Option.bind_eq_some_iff,Option.pure_def,Option.some.injEq]at hc
  obtain⟨c',h1,x',h2,y',h3,rfl⟩:=hc
  exact kg hq fun h=>Md E ho h1 h2 h3 h
 ·rename_i ho
  simp only[Option.map_eq_some_iff]at hc
  obtain⟨z,hz,rfl⟩:=hc
  simp only[eF,Option.some.injEq,Prod.mk.injEq]at hq
  obtain⟨rfl,rfl⟩:=hq
  exact .inl (Om ho hz)
 ·rename_i ho
  simp only[Option.map_eq_some_iff]at hc
  obtain⟨x',hx,rfl⟩:=hc
  simp only[eF,Option.map_eq_some_iff,Prod.mk.injEq]at hq
  obtain⟨cs,dh,rfl,rfl⟩:=hq
  exact .inl (Ok E ho hx dh)
 ·rename_i ho
  simp only[Option.bind_eq_bind,Option.bind_eq_some_iff,Option.pure_def,Option.some.injEq]at hc
  obtain⟨ag,h1,n,h2,x',h3,rfl⟩:=hc
  exact kg hq fun h=>L8 S E ho h1 h2 h3 h
 ·rename_i ho
  simp only[Option.bind_eq_bind,Option.bind_eq_some_iff,Option.pure_def,Option.some.injEq]at hc
  obtain⟨n,h2,x',h3,y',h4,rfl⟩:=hc
  simp[eF]at hq
 ·rename_i ho
  simp only[Option.map_eq_some_iff]at hc
  obtain⟨x',hx,rfl⟩:=hc
  exact kg hq fun h=>OH E ho hx h
 ·rename_i op t x y yt ho
  unfold ss at hc
  split at hc
  ·exact Ow (neg:=false) ho hc hq E
  ·exact Ow (neg:=true) ho hc hq E
  ·simp only[Option.bind_eq_bind,Option.bind_eq_some_iff,Option.pure_def,Option.some.injEq]at hc
   obtain⟨x',h3,y',h4,rfl⟩:=hc
   exact kg hq fun h=>OO (left:=true) E ho h3 h4 h
  ·simp only[Option.bind_eq_bind,Option.bind_eq_some_iff,Option.pure_def,Option.some.injEq]at hc
   obtain⟨x',h3,y',h4,rfl⟩:=hc
   exact kg hq fun h=>OO (left:=false) E ho h3 h4 h
  ·rename_i n1 n2 n3 n4
   split at hc
   ·simp only[Option.bind_eq_bind,Option.bind_eq_some_iff,Option.pure_def,Option.some.injEq]at hc
    obtain⟨x',h3,y',h4,rfl⟩:=hc
    exact kg hq fun h=>OG E ho n1 n2 h3 h4 h
   ·simp only[Option.bind_eq_bind,Option.bind_eq_some_iff,Option.pure_def,Option.some.injEq]at hc
    obtain⟨x',h3,y',h4,rfl⟩:=hc
    exact kg hq fun h=>LY E ho n1 n2 h3 h4 h
   ·simp at hc
 ·rename_i ho
  simp only[Option.map_eq_some_iff]at hc
  obtain⟨x',hx,rfl⟩:=hc
  exact kg hq fun h=>ON E ho hx h
 ·rename_i ho
  simp only[Option.map_eq_some_iff]at hc
  obtain⟨x',hx,rfl⟩:=hc
  exact kg hq fun h=>OM E ho hx h
 ·rename_i ho
  split at hc
  ·rename_i q k h1 h2
   simp only[Option.map_eq_some_iff]at hc
   obtain⟨x',hx,rfl⟩:=hc
   exact kg hq fun h=>LZ E ho h1 h2 hx h
  ·rename_i h1 h2
   simp only[Option.map_eq_some_iff]at hc
   obtain⟨x',hx,rfl⟩:=hc
   exact kg hq fun h=>by
    have hr:=cC E hx
    unfold bS at h
    split at h
    ·rename_i s hb
     simp at h;subst h
     rw[hb]at hr
     exact⟨.string s,by simp only[execOp,ho,eU hr,convert,Sem.run_bind,run_underlying h1,run_underlying h2,Result.andThen_ok,Sem.run_pure],.ew _ _ (.str _)⟩
    ·simp at h
  ·simp at hc
 ·rename_i ho
  split at hc
  ·rename_i e ht
   simp only[Option.bind_eq_bind,Option.bind_eq_some_iff,Option.pure_def,Option.some.injEq]at hc
   obtain⟨n,h1,x',h2,lo,h3,hi,h4,rfl⟩:=hc
   exact kg hq fun h=>Jl S E ho ht h1 h2 h3 h4 h
  ·rename_i ht
   simp only[Option.bind_eq_bind,Option.bind_eq_some_iff,Option.pure_def,Option.some.injEq]at hc
   obtain⟨x',h2,lo,h3,hi,h4,rfl⟩:=hc
   exact kg hq fun h=>Hh E ho ht h2 h3 h4 h
  ·simp at hc
 ·rename_i ho
  split at hc
  ·rename_i fs ph
   split at hc
   ·rename_i f hf
    split at hc
    ·rename_i m hm
     simp only[Option.map_eq_some_iff]at hc
     obtain⟨x',hx,rfl⟩:=hc
     exact kg hq fun h=>Ji E ho ph hf hm hx h
    ·simp at hc
   ·simp at hc
  ·simp at hc
 ·rename_i ho
  split at hc
  ·rename_i fs ph
   split at hc
   ·rename_i f hf
    simp only[Option.bind_eq_bind,Option.bind_eq_some_iff,Option.pure_def,Option.some.injEq]at hc
    obtain⟨ag,h1,n,h2,x',h3,rfl⟩:=hc
    exact kg hq fun h=>Jj E ho ph hf h1 h2 h3 h
   ·simp at hc
  ·simp at hc
 ·rename_i ho
  split at hc
  ·rename_i e ht
   split at hc
   ·rename_i m hm
    simp only[Option.bind_eq_bind,Option.bind_eq_some_iff,Option.pure_def,Option.some.injEq]at hc
    obtain⟨x',h1,i',h2,rfl⟩:=hc
    exact kg hq fun h=>Jk S E ho ht hm h1 h2 h
   ·simp at hc
  ·rename_i len e ht
   split at hc
   ·rename_i m hm
    simp only[Option.bind_eq_bind,Option.bind_eq_some_iff,Option.pure_def,Option.some.injEq]at hc
    obtain⟨x',h1,i',h2,rfl⟩:=hc
    exact kg hq fun h=>L3 E ho ht hm h1 h2 h
   ·simp at hc
  ·simp at hc
 ·rename_i ho
  split at hc
  ·rename_i ht
   simp only[Option.bind_eq_bind,Option.bind_eq_some_iff,Option.pure_def,Option.some.injEq]at hc
   obtain⟨x',h1,i',h2,rfl⟩:=hc
   exact kg hq fun h=>L5 E ho ht h1 h2 h
  ·rename_i len e ht
   simp only[Option.bind_eq_bind,Option.bind_eq_some_iff,Option.pure_def,Option.some.injEq]at hc
   obtain⟨ag,h0,n,h1,x',h2,i',h3,rfl⟩:=hc
   exact kg hq fun h=>L4 E ho ht h0 h1 h2 h3 h
  ·simp at hc
 ·rename_i ho
  simp only[Option.map_eq_some_iff]at hc
  obtain⟨x',hx,rfl⟩:=hc
  exact kg hq fun h=>EE E ho hx h
 ·rename_i ho
  split at hc
  ·rename_i fs ph
   split at hc
   ·rename_i z l hz hl
    split at hc
    ·rename_i cN
     simp only[Option.map_eq_some_iff]at hc
     obtain⟨q,Ir,rfl⟩:=hc
     simp only[eF,Option.map_eq_some_iff,Prod.mk.injEq]at hq
     obtain⟨cs,dh,rfl,rfl⟩:=hq
     exact Jh E ho ph hz hl (fun f hf=>by
      rw[Array.all_eq_true_iff_forall_mem]at cN
      exact cN f (Array.mem_toList_iff.1 hf)) Ir dh
    ·simp at hc
   ·simp at hc
  ·rename_i len e ht
   split at hc
   ·rename_i z l n hz hl hn
    simp only[Option.some.injEq]at hc
    subst hc
    simp only[eF,Option.map_eq_some_iff,Prod.mk.injEq]at hq
    obtain⟨cs,dh,rfl,rfl⟩:=hq
    exact Hg E ho ht hz hl hn dh
   ·simp at hc
  ·simp at hc
 ·rename_i ho
  split at hc
  ·rename_i e ht
   split at hc
   ·rename_i sz z l h1 h2 h3
    split at hc
    ·rename_i hh
     simp only[Option.some.injEq]at hc
     subst hc
     simp only[eF,Option.map_eq_some_iff,Prod.mk.injEq]at hq
     obtain⟨rs,uZ,rfl,rfl⟩:=hq
     exact .inl (Gh E ho ht h1 h2 h3 hh.1 hh.2 (by rw[List.map_map]at uZ;exact uZ))
    ·simp at hc
   ·simp at hc
  ·simp at hc
 ·rename_i ho
  split at hc
  ·rename_i hh
   simp only[Option.map_eq_some_iff]at hc
   obtain⟨l,hl,rfl⟩:=hc
   simp[eF]at hq;obtain⟨rfl,rfl⟩:=hq
   exact Ma E ho hh.1 hh.2 hl
  ·split at hc
   ·rename_i hh
    simp only[Option.map_eq_some_iff]at hc
    obtain⟨l,hl,rfl⟩:=hc
    simp[eF]at hq;obtain⟨rfl,rfl⟩:=hq
    exact Mb E ho hh.1 hh.2 hl
   ·simp at hc
 ·rename_i ho
  split at hc
  ·rename_i e ht
   split at hc
   ·rename_i m z i h1 h2 h3
    split at hc
    ·rename_i hb
     simp only[Option.bind_eq_bind,Option.bind_eq_some_iff,Option.pure_def,Option.some.injEq]at hc
     obtain⟨l',h4,c',h5,rfl⟩:=hc
     simp only[eF,Option.map_eq_some_iff,Prod.mk.injEq]at hq
     obtain⟨⟨n,r⟩,hr,rfl,rfl⟩:=hq
     exact .inl (DW E ho ht h1 h2 h3 hb h4 h5 hr)
    ·simp at hc
   ·simp at hc
  ·simp at hc
 ·rename_i ho
  exact LD ho hc hq S E
 ·rename_i ho
  split at hc
  ·rename_i dir e ht
   split at hc
   ·rename_i i hi
    split at hc
    ·rename_i hb
     simp only[Option.map_eq_some_iff]at hc
     obtain⟨x',hx,rfl⟩:=hc
     simp only[eF,Option.map_eq_some_iff,Prod.mk.injEq]at hq
     obtain⟨n,hn,rfl,rfl⟩:=hq
     exact .inr (.inr (Lu E ho ht hi hb hx hn))
    ·cases hc
   ·cases hc
  ·cases hc
 ·simp only[Option.bind_eq_bind,Option.bind_eq_some_iff,Option.pure_def,Option.some.injEq]at hc
  obtain⟨x',_,y',_,rfl⟩:=hc
  simp[eF]at hq
 ·split at hc
  ·split at hc
   ·simp only[Option.map_eq_some_iff]at hc
    obtain⟨x',_,rfl⟩:=hc
    simp[eF]at hq
   ·cases hc
  ·cases hc
 ·rename_i ho
  split at hc
  ·rename_i m z hm
   simp only[Option.some.injEq]at hc
   subst hc
   simp only[eF,List.map_nil,bB,Option.some.injEq,Prod.mk.injEq]at hq
   obtain⟨rfl,rfl⟩:=hq
   exact .inr (.inl (Ol ho))
  ·cases hc
 ·rename_i ho
  split at hc
  ·rename_i m z x' k' hm hx hk
   simp only[Option.some.injEq]at hc
   subst hc
   obtain⟨rfl,h⟩:=L9 (id:=id) S E ho hm hx hk hq
   exact h
  ·cases hc
 ·split at hc
  ·simp only[Option.some.injEq]at hc
   subst hc
   simp[eF]at hq
  ·cases hc
 ·split at hc
  ·simp only[Option.some.injEq]at hc
   subst hc
   simp[eF]at hq
  ·cases hc
 ·simp only[Option.some.injEq]at hc
  subst hc
  simp[eF]at hq
 ·simp only[Option.some.injEq]at hc
  subst hc
  simp[eF]at hq
 ·simp at hc
end
end Go.Proofs.YtihgaadadaekmaaGreatDoor.V

namespace Go.Proofs.YtihgaadadaekmaaGreatDoor.V
open Go.RowKit
variable {P:Program} {w w':World} {D D':Nat->Prop} {ι ι':Names}
def j6 (ι:Names) (id:Id) (B:qG):Names:=fun i=>if i=id then some B else ι i
theorem dL (ι:Names) (id:Id) (B:qG):j6 ι id B id=some B:=if_pos rfl
theorem fv {ι:Names} {id:Id} {B:qG} (h:ι id=none):∀i B',ι i=some B'->j6 ι id B i=some B':=fun i B' hi=>by
 have:i≠id:=by rintro rfl;rw[h]at hi;cases hi
 rw[j6,if_neg this];exact hi
theorem fu {ι:Names} {id i:Id} {B:qG} (h:i≠id):j6 ι id B i=ι i:=if_neg h
section
variable {g:Rows} {hs:Nat} {env:Env} {a:Act} {o:Oper} {id:Id} {v:AV}
theorem kj.frame {B:qG} {r:Row} (h:kj P w D ι B r) (hb:w'.heap[B.b]? =w.heap[B.b]?) (hr:∀a v,cv P w D ι a v->cv P w' D' ι' a v):kj P w' D' ι' B r:=
 ⟨h.sz,by obtain⟨c,T,h1,h2⟩:=h.CX;exact⟨c,T,hb.trans h1,h2⟩,h.fits,h.len,h.flat,fun i j cs a hi hj=>by
  obtain⟨v,h1,h2⟩:=h.at_ i j cs a hi hj
  exact⟨v,(World.cell?_of_block (a:=⟨B.b,i*r.sz+j,none⟩) hb).trans h1,hr _ _ h2⟩⟩
theorem gN.frame {B:qG} {r:Row} (h:gN P w D ι B r) (hb:w'.heap[B.b]? =w.heap[B.b]?) (hr:∀a v,cv P w D ι a v->cv P w' D' ι' a v):gN P w' D' ι' B r:=
 ⟨h.sz,h.flat,fun hk=>(h.row hk).frame hb hr,fun m hm=>by
  obtain⟨h1,es,c,h2,h3,h5,h4⟩:=h.map m hm
  refine⟨h1,es,c,hb.trans h2,h3,h5,fun i cs hi=>?_⟩
  obtain⟨e,kv,vv,q1,q2,q3,q4,q5⟩:=h4 i cs hi
  exact⟨e,kv,vv,q1,q2,q3,hr _ _ q4,hr _ _ q5⟩,fun c hc=>by
  obtain⟨h1,buf,s,q,h2,h3,h4⟩:=h.chan c hc
  refine⟨h1,buf,s,q,hb.trans h2,h3,fun i cs hi=>?_⟩
  obtain⟨a,u,q1,q2,q3⟩:=h4 i cs hi
  exact⟨a,u,q1,q2,hr _ _ q3⟩⟩
theorem fG.kill (S:fG P hs D ι g w) (i:Id):fG P hs D ι (bU g i) w:=by
 refine⟨S.lo,S.dead,fun id r h=>?_,fun id jP r r' B B' h h' hw hB dk hb=>?_⟩
 ·unfold bU at h;split at h
  ·cases h
  ·exact S.row id r h
 ·unfold bU at h h'
  split at h
  ·cases h
  ·split at h'
   ·cases h'
   ·exact S.inj id jP r r' B B' h h' hw hB dk hb
theorem fG.sub {g':Rows} (S:fG P hs D ι g w) (h:∀id r,g' id=some r->g id=some r):fG P hs D ι g' w:=
 ⟨S.lo,S.dead,fun id r hr=>S.row id r (h id r hr),fun id jP r r' B B' h1 h2=>S.inj id jP r r' B B' (h _ _ h1) (h _ _ h2)⟩
theorem xd {hid:List Nat} {n:Nat} {g:Rows}:∀id r,fQ hid n g id=some r->g id=some r:=fun id r h=>by
 cases hid with
 |nil=>exact h
 |cons a l=>
  have e:fQ (a::l) n g id=if (a::l).contains id.site=true/\id.bZ=n then none else g id:=rfl
  rw[e]at h
  by_cases hc:(a::l).contains id.site=true/\id.bZ=n
  ·rw[if_pos hc]at h;cases h
  ·rw[if_neg hc]at h;exact h
theorem fG.stay (S:fG P hs D ι g w) (hb:∀b,b<w.heap.size->w'.heap[b]? =w.heap[b]?) (hz:w.heap.size<=w'.heap.size) (hD:∀b,D b->D' b) (hD':∀b,D' b->b<w'.heap.size) (jO:∀b,D' b->D b∨w.heap.size<=b) (hι:∀id B,ι id=some B->ι' id=some B):fG P hs D' ι' g w':=by
 have hr:∀a v,cv P w D ι a v->cv P w' D' ι' a v:=fun a v h=>h.frame (fun b hd=>hb b (S.dead b hd)) hD hι
 have lt:∀{id r B},g id=some r->ι id=some B->B.b<w.heap.size:=fun {id r B} h hB=>by
  obtain⟨B',dk,R,_⟩:=S.row id r h
  rw[hB]at dk;injection dk with dk;subst dk
  exact R.lt
 refine⟨Nat.le_trans S.lo hz,hD',fun id r h=>?_,fun id jP r r' B B' h h' hw hB dk he=>?_⟩
 ·obtain⟨B,hB,R,h1,h2⟩:=S.row id r h
  exact⟨B,hι _ _ hB,R.frame (hb _ (lt h hB)) hr,h1,fun hw hd=>by
   rcases jO _ hd with hd|hd
   ·exact h2 hw hd
   ·have:=lt h hB;omega⟩
 ·obtain⟨C,hC,_⟩:=S.row id r h
  obtain⟨C',Ap,_⟩:=S.row jP r' h'
  have e1:=hι _ _ hC
  have e2:=hι _ _ Ap
  rw[hB]at e1;injection e1 with e1;subst e1
  rw[dk]at e2;injection e2 with e2;subst e2
  exact S.inj id jP r r' _ _ h h' hw hC Ap he
theorem Step.stay (S:fG P hs D ι g w) (hb:∀b,b<w.heap.size->w'.heap[b]? =w.heap[b]?) (hz:w.heap.size<=w'.heap.size) (e1:w'.os=w.os) (e2:w'.tape=w.tape) (e3:w'.output=w.output) (hD:∀b,D b->D' b) (jO:∀b,D' b->D b∨w.heap.size<=b) (hι:∀id B,ι id=some B->ι' id=some B):Step hs D ι w D' ι' w':=
 ⟨⟨e1,e2,e3,hz,fun k hk=>hb k (Nat.lt_of_lt_of_le hk S.lo)⟩,fun b hd=>hb b (S.dead b hd),hD,hι,fun b h=>(jO b h).imp_right (Nat.le_trans S.lo)⟩
theorem fG.alloc (S:fG P hs D ι g w) {cells:Array Value} {T:TypeId} {r:Row} (hh:w'.heap=w.heap.push (.cells cells T (0,0))) (hn:ι id=none) (hw:r.w=true) (h1:r.rows.length*r.sz<=cells.size) (h2:∀cs∈r.rows,cs.length=r.sz) (h3:∀cs∈r.rows,∀a∈cs,a.cell=true)
  (h4:∀i j cs a,r.rows[i]? =some cs->cs[j]? =some a->∃x,cells[i*r.sz+j]? =some x/\cv P w D ι a x):fG P hs D (j6 ι id ⟨w.heap.size,r.sz,cells.size,none⟩) (bI g id r) w':=by
 have hb:∀b,b<w.heap.size->w'.heap[b]? =w.heap[b]? :=fun b dD=>by rw[hh,Array.getElem?_push,if_neg ab]
 have hz:w.heap.size<=w'.heap.size:=by rw[hh];simp
 have S':=S.stay (D':=D) (ι':=j6 ι id ⟨w.heap.size,r.sz,cells.size,none⟩) hb hz (fun _ h=>h) (fun b hd=>Nat.lt_of_lt_of_le (S.dead b hd) hz) (fun _ h=>.inl h) (fv hn)
 have hr:∀a v,cv P w D ι a v->cv P w' D (j6 ι id ⟨w.heap.size,r.sz,cells.size,none⟩) a v:=fun a v h=>h.frame (fun b hd=>hb b (S.dead b hd)) (fun _ h=>h) (fv hn)
 have jO:w'.heap[w.heap.size]? =some (.cells cells T (0,0)):=by rw[hh];simp
 have gone:g id=none:=by
  cases hg:g id with
  |none=>rfl
  |some q=>
   obtain⟨B,hB,_⟩:=S.row id q hg
   rw[hn]at hB;cases hB
 have lt:∀{i q B},g i=some q->ι i=some B->B.b<w.heap.size:=fun {i q B} h hB=>by
  obtain⟨B',dk,R,_⟩:=S.row i q h
  rw[hB]at dk;injection dk with dk;subst dk
  exact R.lt
 refine⟨S'.lo,S'.dead,fun i q h=>?_,fun i i' q q' B B' h h' NX hB dk he=>?_⟩
 ·unfold bI at h
  split at h
  ·rename_i e
   subst e
   injection h with h;subst h
   refine⟨_,dL _ _ _,kj.obj ⟨rfl,⟨cells,T,jO,rfl⟩,h1,h2,h3,fun k j cs a hk hj=>?_⟩ rfl,fun _=>S.lo,fun _ hd=>?_⟩
   ·obtain⟨x,hx,hrx⟩:=h4 k j cs a hk hj
    exact⟨x,by simp[World.cell?,jO,hx],hr _ _ hrx⟩
   ·have:=S.dead _ hd;simp at this
  ·exact S'.row i q h
 ·unfold bI at h h'
  split at h
  ·rename_i e
   split at h'
   ·rename_i e';exact e.trans e'.symm
   ·exfalso
    rename_i e'
    subst e
    rw[dL]at hB;injection hB with hB;subst hB
    rw[fu e']at dk
    have:=lt h' dk
    simp at he;omega
  ·rename_i e
   split at h'
   ·exfalso
    rename_i e'
    subst e'
    rw[dL]at dk;injection dk with dk;subst dk
    rw[fu e]at hB
    have:=lt h hB
    simp at he;omega
   ·exact S'.inj i i' q q' B B' h h' NX hB dk he
theorem fG.put (S:fG P hs D ι g w) {r r':Row} {B:qG} {cur cur':Array Value} {T:TypeId} (hid:g id=some r) (hw:r.w=true) (hB:ι id=some B) (ly:w.heap[B.b]? =some (.cells cur T (0,0))) (eT:cur'.size=cur.size)
  (h0:r'.w=true) (h1:r'.sz=r.sz) (h2:r'.rows.length*r'.sz<=B.C) (h3:∀cs∈r'.rows,cs.length=r'.sz) (h4:∀cs∈r'.rows,∀a∈cs,a.cell=true)
  (h5:∀i j cs a,r'.rows[i]? =some cs->cs[j]? =some a->∃v,cur'[i*r.sz+j]? =some v/\cv P w D ι a v):fG P hs D ι (bI g id r') (w.setRow B.b cur')/\Step hs D ι w D ι (w.setRow B.b cur'):=by
 obtain⟨B0,yw,RO,jH,lD⟩:=S.row id r hid
 rw[hB]at yw;injection yw with yw;subst yw
 have pj:=RO.IQ ly
 have R:=RO.row pj
 have hd:∀b,D b->(w.setRow B.b cur').heap[b]? =w.heap[b]? :=fun b hb=>setRow_other w B.b b cur' (by rintro rfl;exact lD hw hb)
 have hr:∀a v,cv P w D ι a v->cv P (w.setRow B.b cur') D ι a v:=fun a v h=>h.frame hd (fun _ h=>h) (fun _ _ h=>h)
 have hC:cur.size=B.C:=by
  obtain⟨c,T',h1,h2⟩:=R.CX
  rw[ly]at h1;injection h1 with h1;injection h1 with h1 Nm;subst h1;exact h2
 refine⟨⟨by simpa using S.lo,fun b hb=>by simpa using S.dead b hb,fun i q h=>?_,fun i i' q q' C C' h h' NX hC Ap he=>?_⟩,⟨⟨by simp,by simp,by simp,by simp,fun k hk=>setRow_other w B.b k cur' (by have:=jH hw;omega)⟩,hd,fun _ h=>h,fun _ _ h=>h,fun _ h=>.inl h⟩⟩
 ·unfold bI at h
  split at h
  ·rename_i e
   subst e
   injection h with h;subst h
   refine⟨B,hB,kj.obj ⟨by rw[h1];exact R.sz,⟨cur',T,setRow_heap w B.b cur cur' T _ ly,by rw[eT];exact hC⟩,h2,h3,h4,fun k j cs a hk hj=>?_⟩ pj,fun _=>jH hw,fun _=>lD hw⟩
   obtain⟨v,hv,kM⟩:=h5 k j cs a hk hj
   exact⟨v,by rw[cell_setRow_same w B.b _ cur cur' T _ ly,h1];exact hv,hr _ _ kM⟩
  ·rename_i e
   obtain⟨C,hC,RC,k1,k2⟩:=S.row i q h
   refine⟨C,hC,RC.frame (setRow_other w B.b C.b cur' (fun Jy=>e ?_)) hr,k1,k2⟩
   exact(S.inj id i r q B C hid h hw hB hC Jy.symm).symm
 ·unfold bI at h h'
  have get:∀j p,(if j=id then some r' else g j)=some p->∃p0,g j=some p0/\(p.w=true->p0.w=true):=fun j p hp=>by
   split at hp
   ·rename_i e;subst e;injection hp with hp;subst hp;exact⟨r,hid,fun _=>hw⟩
   ·exact⟨p,hp,fun h=>h⟩
  obtain⟨p,hp,Mz⟩:=get _ _ h
  obtain⟨p',K5,_⟩:=get _ _ h'
  exact S.inj i i' p p' C C' hp K5 (Mz NX) hC Ap he
theorem fG.rename (S:fG P hs D ι g w) {i:Id} {r:Row} {B:qG} (hi:g i=some r) (hw:r.w=true) (hB:ι i=some B) (hn:ι id=none):fG P hs D (j6 ι id B) (bI (bU g i) id r) w:=by
 have S':=S.stay (w':=w) (D':=D) (ι':=j6 ι id B) (fun _ _=>rfl) (Nat.le_refl _) (fun _ h=>h) S.dead (fun _ h=>.inl h) (fv hn)
 have gF:i≠id:=by rintro rfl;rw[hn]at hB;cases hB
 obtain⟨B1,xp,R,k1,k2⟩:=S'.row i r hi
 rw[fu gF,hB]at xp;injection xp with xp;subst xp
 have get:∀j p,bI (bU g i) id r j=some p->(j=id/\p=r)∨(j≠id/\j≠i/\g j=some p):=fun j p hp=>by
  unfold bI bU at hp
  split at hp
  ·rename_i e;injection hp with hp;exact .inl ⟨e,hp.symm⟩
  ·rename_i e
   split at hp
   ·cases hp
   ·rename_i e';exact .inr ⟨e,e',hp⟩
 refine⟨S.lo,S.dead,fun j p h=>?_,fun j j' p p' C C' h h' Mz hC Ap he=>?_⟩
 ·rcases get j p h with⟨rfl,rfl⟩|⟨_,_,hp⟩
  ·exact⟨B,dL _ _ _,R,k1,k2⟩
  ·exact S'.row j p hp
 ·rcases get j p h with⟨rfl,rfl⟩|⟨q1,q2,hp⟩
  ·rcases get j' p' h' with⟨rfl,rfl⟩|⟨q1',q2',K5⟩
   ·rfl
   ·exfalso
    rw[dL]at hC;injection hC with hC;subst hC
    rw[fu q1']at Ap
    exact q2' (S.inj i j' p p' B C' hi K5 hw hB Ap he).symm
  ·rcases get j' p' h' with⟨rfl,rfl⟩|⟨q1',q2',K5⟩
   ·exfalso
    rw[dL]at Ap;injection Ap with Ap;subst Ap
    rw[fu q1]at hC
    exact q2 (S.inj j i p p' C B hp hi Mz hC hB he)
   ·rw[fu q1]at hC
    rw[fu q1']at Ap
    exact S.inj j j' p p' C C' hp K5 Mz hC Ap he
def zG (P:Program) (hs:Nat) (a:Act) (o:Oper) (w:World) (D:Nat->Prop) (ι:Names) (id:Id) (v:AV) (g':Rows):Prop:=
 ∃u w' ι',((execOp a.eval o).run P w=.ok (.value u) w'∨(execOp a.eval o).run P w=.ok .skip w'/\u=undef)/\Step hs D ι w D ι' w'/\fG P hs D ι' g' w'/\cv P w' D ι' v u/\∀i,i≠id->ι' i=ι i
theorem zd {xs:List AV} {vs:Array Value} (h:eP P w D ι xs vs) (hf:∀a∈xs,a.cell=true):∀v∈vs.toList,v.oneCell'=true:=by
 intro v hv
 obtain⟨j,hj,rfl⟩:=List.getElem_of_mem hv
 have JG:j<xs.length:=by rw[<-h.1];simpa using hj
 obtain⟨u,hu,hr⟩:=h.2 j _ (List.getElem?_eq_getElem JG)
 have hc:=hr.xW (hf _ (List.getElem_mem JG))
 have:vs.toList[j]=u:=by
  have:vs.toList[j]? =some u:=by simpa using hu
  rw[List.getElem?_eq_getElem hj]at this;injection this
 rw[this]
 cases u<;>simp_all [Value.oneCell']
theorem jb {i j n m:Nat} (h:i<n) (hj:j<m):i*m+j<n*m:=by
 have:(i+1)*m<=n*m:=Nat.mul_le_mul_right _ h
 rw[Nat.add_mul,Nat.one_mul]at this;omega
theorem kj.cur {B:qG} {r:Row} (R:kj P w D ι B r):∃cur T,w.heap[B.b]? =some (.cells cur T (0,0))/\cur.size=B.C/\∀i j cs a,r.rows[i]? =some cs->cs[j]? =some a->∃v,cur[i*r.sz+j]? =some v/\cv P w D ι a v:=by
 obtain⟨cur,T,h1,h2⟩:=R.CX
 refine⟨cur,T,h1,h2,fun i j cs a hi hj=>?_⟩
 obtain⟨v,hv,hr⟩:=R.at_ i j cs a hi hj
 exact⟨v,by simpa[World.cell?,h1]using hv,hr⟩
theorem HV {t:TypeId} {n:Nat} {x y:Operand} {x' y':O} {g':Rows} (S:fG P hs D ι g w) (E:bt P w D ι env a) (ho:o.op=.store t x y) (hn:dw P t=some n) (hx:cO P x=some x') (hy:cO P y=some y')
  (hv:bQ g n (cu env y') (cu env x')=some g'):zG P hs a o w D ι id .undef g':=by
 have rx:=cC E hx
 have ry:=cC E hy
 unfold bQ at hv
 split at hv
 ·rename_i i k off hp
  rw[hp]at rx
  simp only[Option.bind_eq_some_iff]at hv
  obtain⟨r,hg,cs,dh,hv⟩:=hv
  split at hv
  ·rename_i hc
   obtain⟨c1,c2,c3,c4⟩:=hc
   simp at hv;subst hv
   obtain⟨B,he,hB,hk⟩:=iJ rx
   obtain⟨B',dk,R,jH,lD⟩:=S.row i r hg
   rw[hB]at dk;injection dk with dk;subst dk
   replace R:=R.row hk
   obtain⟨cur,T,ly,hC,sO⟩:=R.cur
   have hL:=oN ry c3
   have h1:=zd hL (List.all_eq_true.1 c3)
   have N8:(a.eval y).cells.size=n:=by rw[hL.1,c2]
   have kK:=(List.getElem?_eq_some_iff.1 dh).1
   have hlen:=R.len cs (List.mem_of_getElem? dh)
   have hbound:k*r.sz+r.sz<=r.rows.length*r.sz:=by
    have:(k+1)*r.sz<=r.rows.length*r.sz:=Nat.mul_le_mul_right _ kK
    rwa [Nat.add_mul,Nat.one_mul]at this
   have hf:=R.fits
   have dS:=run_storeCells_at P B.b (k*B.sz+off) T (a.eval y).cells.toList 0 cur w ly (by rw[R.sz];simp only[Array.length_toList];omega) h1
   simp only[Nat.add_zero,Array.length_toList]at dS
   have wC:=S.put (r':={r with rows:=r.rows.set k (cI cs off (cu env y').cells)}) hg c1 hB ly (cur':=(cur.toList.take (k*B.sz+off)++(a.eval y).cells.toList++cur.toList.drop (k*B.sz+off+(a.eval y).cells.size)).toArray)
    (by rw[R.sz];simp;omega) c1 rfl (by simpa using R.fits) (fun c Qk=>by
     rcases List.mem_or_eq_of_mem_set Qk with h|rfl
     ·exact R.len c h
     ·simp[cI];omega) (fun c Qk b hb=>by
     rcases List.mem_or_eq_of_mem_set Qk with h|rfl
     ·exact R.flat c h b hb
     ·unfold cI at hb
      rcases List.mem_append.1 hb with hb|hb
      ·rcases List.mem_append.1 hb with hb|hb
       ·exact R.flat cs (List.mem_of_getElem? dh) b (List.mem_of_mem_take hb)
       ·exact List.all_eq_true.1 c3 b hb
      ·exact R.flat cs (List.mem_of_getElem? dh) b (List.mem_of_mem_drop hb)) (fun i2 j c b yE hj=>by
     rw[R.sz]
     simp only[List.getElem?_toArray]
     by_cases uW:i2=k
     ·subst uW
      rw[List.getElem?_set_self kK]at yE
      injection yE with yE;subst yE
      unfold cI at hj
      by_cases hjo:j<off
      ·rw[List.append_assoc,List.getElem?_append_left (by simp;omega),List.getElem?_take,if_pos hjo]at hj
       rw[List.append_assoc,List.getElem?_append_left (by simp;omega),List.getElem?_take,if_pos ab]
       simpa using sO _ _ _ _ dh hj
      ·by_cases im:j<off+n
       ·rw[List.append_assoc,List.getElem?_append_right (by simp;omega),List.getElem?_append_left (by simp;omega)]at hj
        rw[List.append_assoc,List.getElem?_append_right (by simp;omega),List.getElem?_append_left (by simp;omega)]
        simp only[List.length_take]at hj ⊢
        rw[show j-min off cs.length=j-off by omega]at hj
        rw[show i2*r.sz+j-min (i2*r.sz+off) cur.toList.length=j-off by simp;omega]
        simpa using hL.2 _ _ hj
       ·rw[List.getElem?_append_right (by simp;omega)]at hj
        rw[List.getElem?_append_right (by simp;omega)]
        simp only[List.length_append,List.length_take,List.getElem?_drop,Array.length_toList]at hj ⊢
        rw[show off+(cu env y').cells.length+(j-(min off cs.length+(cu env y').cells.length))=j by omega]at hj
        rw[show i2*r.sz+off+(a.eval y).cells.size+(i2*r.sz+j-(min (i2*r.sz+off) cur.size+(a.eval y).cells.size))=i2*r.sz+j by omega]
        simpa using sO _ _ _ _ dh hj
     ·rw[List.getElem?_set_ne (fun e=>uW e.symm)]at yE
      have hi2l:=(List.getElem?_eq_some_iff.1 yE).1
      have gn:j<r.sz:=by rw[<-R.len c (List.mem_of_getElem? yE)];exact(List.getElem?_eq_some_iff.1 hj).1
      have:=sO _ _ _ _ yE hj
      rcases Nat.lt_or_gt_of_ne uW with dD|Ic
      ·have h2:i2*r.sz+j<k*r.sz:=jb dD gn
       rw[List.append_assoc,List.getElem?_append_left (by simp;omega),List.getElem?_take,if_pos ab]
       simpa using this
      ·have h2:k*r.sz+r.sz<=i2*r.sz:=by
        have:(k+1)*r.sz<=i2*r.sz:=Nat.mul_le_mul_right _ Ic
        rwa [Nat.add_mul,Nat.one_mul]at this
       rw[List.getElem?_append_right (by simp;omega)]
       simp only[List.length_append,List.length_take,List.getElem?_drop,Array.length_toList]
       rw[show k*r.sz+off+(a.eval y).cells.size+(i2*r.sz+j-(min (k*r.sz+off) cur.size+(a.eval y).cells.size))=i2*r.sz+j by omega]
       simpa using this)
   refine⟨undef,_,ι,.inr ⟨?_,rfl⟩,wC.2,wC.1,cv.undef,fun _ _=>rfl⟩
   simp only[execOp,ho,he,Instr.storeAt,Instr.sureAddr,storeVar,Sem.run_bind,Sem.run_pure,Result.andThen_ok,run_sizeOf hn,N8,ne_eq,not_true_eq_false,if_false,dS]
  ·simp at hv
 ·simp at hv
end
end Go.Proofs.YtihgaadadaekmaaGreatDoor.V

namespace Go.Proofs.YtihgaadadaekmaaGreatDoor.V
open Go.RowKit
variable {P:Program} {w w':World} {D D':Nat->Prop} {ι ι':Names}
section
variable {g:Rows} {hs:Nat} {env:Env} {a:Act} {o:Oper} {id:Id} {v:AV}
theorem pG (S:fG P hs D ι g w) {y:AV} {u:Value} {ys:List (List AV)} {sz:Nat} (hr:cv P w D ι y u) (hy:br g y=some ys) (hl:∀c∈ys,c.length=sz) (hf:∀c∈ys,∀b∈c,b.cell=true):
  ∃A c,u=.slice A ys.length c/\(ys=[]∨∃b o,∃news:List Value,A=some ⟨b,o,none⟩/\news.length=ys.length*sz/\(∀j v,news[j]? =some v->w.cell? ⟨b,o+j,none⟩=some v)/\eP P w D ι ys.flatten news.toArray/\∀v∈news,v.oneCell'=true):=by
 have fin:∀b o,ys≠[]->(∀i j cs x,ys[i]? =some cs->cs[j]? =some x->∃v,w.cell? ⟨b,o+(i*sz+j),none⟩=some v/\cv P w D ι x v)->
   ∃news:List Value,news.length=ys.length*sz/\(∀j v,news[j]? =some v->w.cell? ⟨b,o+j,none⟩=some v)/\eP P w D ι ys.flatten news.toArray/\∀v∈news,v.oneCell'=true:=by
  intro b o _ h
  have hlen:=FA hl
  have at_:∀k,k<ys.length*sz->∃x,ys.flatten[k]? =some x/\∃v,w.cell? ⟨b,o+k,none⟩=some v/\cv P w D ι x v:=by
   intro k hk
   have kC:0<sz:=by
    rcases Nat.eq_zero_or_pos sz with h0|h0
    ·subst h0;simp at hk
    ·exact h0
   have hi:k / sz<ys.length:=Nat.div_lt_of_lt_mul (by rw[Nat.mul_comm];exact hk)
   have hj:k % sz<sz:=Nat.mod_lt _ kC
   have dh:=List.getElem?_eq_getElem hi
   have gn:k % sz<ys[k / sz].length:=by rw[hl _ (List.getElem_mem hi)];exact hj
   have hx:=List.getElem?_eq_getElem gn
   have e:k / sz*sz+k % sz=k:=by rw[Nat.mul_comm];exact Nat.div_add_mod _ _
   refine⟨_,by rw[<-flat_get hl dh hx,e],?_⟩
   obtain⟨v,hv,kM⟩:=h _ _ _ _ dh hx
   rw[e]at hv
   exact⟨v,hv,kM⟩
  let news:=(List.range (ys.length*sz)).map fun k=>(w.cell? ⟨b,o+k,none⟩).getD undef
  have hn:∀k,k<ys.length*sz->∀v,w.cell? ⟨b,o+k,none⟩=some v->news[k]? =some v:=fun k hk v hv=>by
   simp only[news,List.getElem?_map,List.getElem?_range hk,Option.map_some,hv,Option.getD_some]
  have hR:eP P w D ι ys.flatten news.toArray:=⟨by simp[news,hlen],fun j x hx=>by
   have gn:=(List.getElem?_eq_some_iff.1 hx).1
   rw[hlen]at gn
   obtain⟨x',tT,v,hv,kM⟩:=at_ j gn
   rw[hx]at tT;injection tT with tT;subst tT
   exact⟨v,by simpa using hn j gn v hv,kM⟩⟩
  refine⟨news,by simp[news],fun j v hj=>?_,hR,?_⟩
  ·have gn:j<ys.length*sz:=by have:=(List.getElem?_eq_some_iff.1 hj).1;simpa[news]using this
   obtain⟨x,_,v',mj,_⟩:=at_ j gn
   rw[hn j gn v' mj]at hj
   injection hj with hj
   rw[<-hj];exact mj
  ·have:=zd hR (fun x hx=>by
    obtain⟨c,hc,QZ⟩:=List.mem_flatten.1 hx
    exact hf c hc x QZ)
   simpa using this
 unfold br at hy
 split at hy
 ·simp at hy;subst hy
  exact⟨none,0,js hr,.inl rfl⟩
 ·rename_i rows
  simp at hy;subst hy
  obtain⟨A,c,he,_,_,h3⟩:=tp hr
  refine⟨A,c,he,?_⟩
  rcases h3 with h3|⟨b,oo,sz',vs,rfl,hD,Hv,_,hc,hi⟩
  ·exact .inl h3
  ·by_cases h0:rows=[]
   ·exact .inl h0
   ·have yI:sz'=sz:=by
     cases rows with
     |nil=>exact(h0 rfl).elim
     |cons c r=>rw[<-Hv c (by simp),hl c (by simp)]
    subst yI
    obtain⟨news,q1,q2,q3,q4⟩:=fin b oo h0 (fun i j cs x dh hx=>⟨_,hc i j (List.getElem?_eq_some_iff.1 dh).1 (by rw[<-Hv cs (List.mem_of_getElem? dh)];exact(List.getElem?_eq_some_iff.1 hx).1),.ew _ _ (hi i j cs x dh hx)⟩)
    exact .inr ⟨b,oo,news,rfl,q1,q2,q3,q4⟩
 ·rename_i i off len
  simp only[Option.bind_eq_some_iff]at hy
  obtain⟨r,hg,hy⟩:=hy
  split at hy
  ·rename_i hle
   simp at hy;subst hy
   obtain⟨oo,cap,B,he,hB,h1,h2,h3,h4,hk⟩:=iI hr
   obtain⟨B',dk,R,_,_⟩:=S.row i r hg
   rw[hB]at dk;injection dk with dk;subst dk
   replace R:=R.row hk
   have hlen:((r.rows.drop off).take len).length=len:=by simp;omega
   refine⟨some ⟨B.b,oo,none⟩,cap,by rw[hlen];exact he,?_⟩
   by_cases h0:(r.rows.drop off).take len=[]
   ·exact .inl h0
   ·have yI:r.sz=sz:=by
     cases hq:(r.rows.drop off).take len with
     |nil=>exact(h0 hq).elim
     |cons c q=>
      have hm:c∈(r.rows.drop off).take len:=by rw[hq];simp
      rw[<-hl c hm,R.len c (List.mem_of_mem_drop (List.mem_of_mem_take hm))]
    have hlp:0<len:=by rw[<-hlen];exact List.length_pos_iff.2 h0
    have xo:oo=off*B.sz:=by rcases h2 with h2|h2<;>omega
    obtain⟨news,q1,q2,q3,q4⟩:=fin B.b oo h0 (fun i2 j cs x dh hx=>by
     rw[List.getElem?_take]at dh
     split at dh
     ·rw[List.getElem?_drop]at dh
      obtain⟨v,hv,kM⟩:=R.at_ _ _ _ _ dh hx
      refine⟨v,?_,kM⟩
      rw[xo,R.sz,<-yI]
      rw[Nat.add_mul]at hv
      rw[<-Nat.add_assoc]
      exact hv
     ·simp at dh)
    exact .inr ⟨B.b,oo,news,rfl,q1,q2,q3,q4⟩
  ·simp at hy
 ·simp at hy
theorem nj {t ty e:TypeId} {i:TypeInfo} (ht:P.underlying t=some (.slice e)) (hi:P.info? e=some i) (A:Option Addr) (n c:Nat) (hn:n<=c) (B:Option Addr) (d:Nat):
  (Builtin.append_ #[t,t] ty #[.slice A n c,.slice B 0 d]).run P w=.ok (.slice A n c) w:=by
 have hf:(Builtin.firstCells i.size 0 (.slice B 0 d)).run P w=.ok #[] w:=by
  cases B<;>simp[Builtin.firstCells,loadCells,loadCellsFrom]
 cases A with
 |none=>simp[Builtin.append_,run_underlying ht,sizeOf,typeInfo,hi,Builtin.lenOf,hn,hf]
 |some A=>simp[Builtin.append_,run_underlying ht,sizeOf,typeInfo,hi,Builtin.lenOf,hn,hf,storeCells]
theorem uy {t ty e T:TypeId} {i:TypeInfo} (ht:P.underlying t=some (.slice e)) (hi:P.info? e=some i) (b pJ Bp:Nat) (cur:Array Value) (hg:w.heap[b]? =some (.cells cur T (0,0)))
  (x:Addr) (m c:Nat) (news:List Value) (hl:news.length=m*i.size) (NU:∀j u,news[j]? =some u->w.cell? (x.add j)=some u) (h1:∀u∈news,u.oneCell'=true)
  (fc:pJ+m<=Bp) (Aw:pJ*i.size+news.length<=cur.size):
  (Builtin.append_ #[t,t] ty #[.slice (some ⟨b,0,none⟩) pJ Bp,.slice (some x) m c]).run P w=
   .ok (.slice (some ⟨b,0,none⟩) (pJ+m) Bp) (w.setRow b (cur.toList.take (pJ*i.size)++news++cur.toList.drop (pJ*i.size+news.length)).toArray):=by
 have hf:=run_firstCells_some (P:=P) w i.size m x m c news hl NU
 have dS:=run_storeCells_at P b (pJ*i.size) T news 0 cur w hg (by simpa using Aw) h1
 simp only[Nat.add_zero]at dS
 simp[Builtin.append_,run_underlying ht,sizeOf,typeInfo,hi,Builtin.lenOf,fc,hf,ju,dS]
theorem yv (w:World) (D5 za:Nat) (e:TypeId) (h:D5<=dI):D5<=grownCap w D5 za e/\grownCap w D5 za e<=maxLen:=by
 unfold dI at h
 simp only[grownCap,Question.cut,maxLen]
 have:=Nat.mod_lt (w.tape w.drawn (.appendCap D5 za e)) (show 0<2 ^ 63-D5 by omega)
 omega
theorem fj {x y:Operand} {t:TypeId} {u:Value} (ho:o.op=.call {callee:=.builtin .append,args:= #[x,y],argTypes:= #[t,t]}) (h:(Builtin.append_ #[t,t] o.type #[a.eval x,a.eval y]).run P w=.ok u w'):(execOp a.eval o).run P w=.ok (.value u) w':=by
 simp only[execOp,ho,resolve,Sem.run_bind,Sem.run_pure,Result.andThen_ok,invoke,builtin]
 simp only[List.map_toArray,List.map_cons,List.map_nil]
 rw[h];rfl
theorem zj {T:TypeId} (S:fG P hs D ι g w) (cells:Array Value) (hn:ι id=none) (B:qG):Step hs D ι w D (j6 ι id B) (w.drew.alloc (.cells cells T)):=
 Step.stay S (fun k hk=>by show(w.heap.push _)[k]? = _;rw[Array.getElem?_push,if_neg ab]) (by show _<=(w.heap.push _).size;simp) rfl rfl rfl (fun _ h=>h) (fun _ h=>.inl h) (fv hn)
theorem Fq {x y:Operand} {x' y':O} {t e:TypeId} {m:Nat} {z:List K} {i:TypeInfo} {ys:List (List AV)} {g':Rows} (S:fG P hs D ι g w) (E:bt P w D ι env a) (hn:ι id=none) (ho:o.op=.call {callee:=.builtin .append,args:= #[x,y],argTypes:= #[t,t]})
  (ht:P.underlying t=some (.slice e)) (eT:dw P e=some (m+1)) (hz:iT P e=some z) (hi:P.info? e=some i) (hby:i.bytes<=32768) (hx:cO P x=some x') (hy:cO P y=some y') (Cn:br g (cu env y')=some ys)
  (hv:aZ g id (m+1) (cu env x') ys=some (v,g')):zG P hs a o w D ι id v g':=by
 have rx:=cC E hx
 have ry:=cC E hy
 obtain⟨it,zv,oW,sW,MJ,hm,Co⟩:=jf hz
 rw[hi]at oW;injection oW with oW;subst oW
 have iQ:i.size=m+1:=by simpa[dw,hi]using eT
 have fits:∀n,n<=dI->n*i.bytes<=140737488355328:=fun n h=>by
  unfold dI at h
  have:=Nat.mul_le_mul h hby
  omega
 have e63:∀n,n<=dI->(n:Int)<=9223372036854775807:=fun n h=>by unfold dI at h;omega
 have same:∀(w1:World) (cells:Array Value),w1=w.drew.alloc (.cells cells e)->w1.heap=w.heap.push (.cells cells e (0,0)):=fun w1 cells h=>by subst h;rfl
 have MZ:∀l:List (List AV),(l.all fun c=>c.length==m+1&&c.all AV.cell)=true->(∀c∈l,c.length=m+1)/\∀c∈l,∀b∈c,b.cell=true:=fun l h=>by
  rw[List.all_eq_true]at h
  refine⟨fun c hc=>?_,fun c hc b hb=>?_⟩
  ·have:=h c hc;simp at this;exact this.1
  ·have:=h c hc;simp at this;exact this.2 b hb
 unfold aZ at hv
 split at hv
 ·rename_i hb
  rw[hb]at rx
  have ex:=js rx
  split at hv
  ·simp at hv
   obtain⟨rfl,rfl⟩:=hv
   obtain⟨A,c,ey,_⟩:=pG (sz:=m+1) S ry Cn (fun c h=>by cases h) (fun c h=>by cases h)
   refine⟨_,w,ι,.inl (fj ho (by rw[ex,ey];exact nj ht hi none 0 0 (Nat.le_refl _) A c)),Step.refl _ _ _ _,S,.ew _ _ .bE,fun _ _=>rfl⟩
  ·rename_i y0 yr
   split at hv
   ·rename_i hc
    simp only[Option.some.injEq,Prod.mk.injEq]at hv
    obtain⟨rfl,rfl⟩:=hv
    obtain⟨hl,hf⟩:=MZ _ hc.2
    obtain⟨A,c,ey,h2⟩:=pG (sz:=m+1) S ry Cn hl hf
    rcases h2 with h2|⟨b,oo,news,rfl,q1,q2,q3,q4⟩
    ·cases h2
    have gD:=run_append_nil (P:=P) w t o.type e i zv ht hi sW ⟨b,oo,none⟩ (y0::yr).length c news (by rw[iQ];exact q1) (fun j v hj=>by rw[ju];exact q2 j v hj) (by simp) (e63 _ hc.1) (by have:=fits _ hc.1;omega)
    obtain⟨g1,g2⟩:=yv w (y0::yr).length 0 e hc.1
    have dh:(news.toArray++Builtin.zeroCells zv.cells (grownCap w (y0::yr).length 0 e-(y0::yr).length)).size=grownCap w (y0::yr).length 0 e*(m+1):=by
     rw[Array.size_append,size_zeroCells,MJ,iQ]
     simp only[List.size_toArray,q1]
     rw[<-Nat.add_mul];congr 1;omega
    have S1:=S.alloc (w':=w.drew.alloc (.cells (news.toArray++Builtin.zeroCells zv.cells (grownCap w (y0::yr).length 0 e-(y0::yr).length)) e)) (r:=⟨true,m+1,y0::yr⟩) rfl hn rfl (by rw[dh];exact Nat.mul_le_mul_right _ g1) hl hf
     (fun k j cs b2 hk hj=>by
      obtain⟨u,hu,uo⟩:=q3.2 _ _ (flat_get hl hk hj)
      refine⟨u,?_,uo⟩
      have dD:=(Array.getElem?_eq_some_iff.1 hu).1
      dsimp only
      rw[Array.getElem?_append_left dD];exact hu)
    have dS:=zj (T:=e) S (news.toArray++Builtin.zeroCells zv.cells (grownCap w (y0::yr).length 0 e-(y0::yr).length)) hn ⟨w.heap.size,m+1,(news.toArray++Builtin.zeroCells zv.cells (grownCap w (y0::yr).length 0 e-(y0::yr).length)).size,none⟩
    refine⟨_,_,_,.inl (fj ho (by rw[ex,ey];exact gD)),dS,S1,?_,fun _ h=>fu h⟩
    refine .own _ _ _ _ _ _ (dL _ _ _) rfl g1 (.inr (by simp)) ?_ g2
    dsimp only;rw[dh];simp
   ·simp at hv
 ·rename_i i0 len hb
  rw[hb]at rx
  simp only[Option.bind_eq_some_iff]at hv
  obtain⟨r,hg,hv⟩:=hv
  split at hv
  ·rename_i hc
   obtain⟨c1,c2,c3,c4,c5⟩:=hc
   simp only[Option.some.injEq,Prod.mk.injEq]at hv
   obtain⟨rfl,rfl⟩:=hv
   obtain⟨hl,hf⟩:=MZ _ c5
   obtain⟨A,c,ey,h2⟩:=pG (sz:=m+1) S ry Cn hl hf
   obtain⟨oo,cap,B,ex,hB,h1,xo,h3,h4,hk⟩:=iI rx
   obtain⟨B',dk,R,jH,lD⟩:=S.row _ _ hg
   rw[hB]at dk;injection dk with dk;subst dk
   replace R:=R.row hk
   have Cb:B.sz=m+1:=R.sz.trans c2
   have wK:∀cs∈r.rows++ys,cs.length=m+1:=fun cs dh=>by
    rcases List.mem_append.1 dh with h|h
    ·rw[<-c2];exact R.len cs h
    ·exact hl cs h
   have Ju:∀cs∈r.rows++ys,∀b∈cs,b.cell=true:=fun cs dh=>by
    rcases List.mem_append.1 dh with h|h
    ·exact R.flat cs h
    ·exact hf cs h
   rcases h2 with rfl|⟨yb,yo,news,rfl,q1,q2,q3,q4⟩
   ·have Dy:=S.rename hg c1 hB hn
    refine⟨_,w,j6 ι id B,.inl (fj ho (by rw[ex,ey];exact nj ht hi _ _ _ h1 A c)),⟨Below.refl _ _,fun _ _=>rfl,fun _ h=>h,fv hn,fun _ h=>.inl h⟩,?_,?_,fun _ h=>fu h⟩
    ·have:(⟨true,m+1,r.rows++[]⟩:Row)=r:=by cases r;simp_all
     rw[this];exact Dy
    ·simp only[List.length_nil,Nat.add_zero]
     exact .own _ _ _ _ _ B (dL _ _ _) hk h1 xo h3 h4
   ·obtain⟨cur,T,ly,hC,sO⟩:=R.cur
    by_cases fc:len+ys.length<=cap
    ·have Pk:ys≠[]->oo=0:=fun h=>by
      rcases xo with xo|xo
      ·have:=List.length_pos_iff.2 h;omega
      ·simpa using xo
     by_cases hy0:ys=[]
     ·subst hy0
      have Dy:=S.rename hg c1 hB hn
      refine⟨_,w,j6 ι id B,.inl (fj ho (by rw[ex,ey];exact nj ht hi _ _ _ h1 _ c)),⟨Below.refl _ _,fun _ _=>rfl,fun _ h=>h,fv hn,fun _ h=>.inl h⟩,?_,?_,fun _ h=>fu h⟩
      ·have:(⟨true,m+1,r.rows++[]⟩:Row)=r:=by cases r;simp_all
       rw[this];exact Dy
      ·simp only[List.length_nil,Nat.add_zero]
       exact .own _ _ _ _ _ B (dL _ _ _) hk h1 xo h3 h4
     have ho0:=Pk hy0
     subst ho0
     have Aw:len*i.size+news.length<=cur.size:=by
      rw[iQ,q1,hC,<-Nat.add_mul]
      refine Nat.le_trans ?_ h3
      rw[Cb,Nat.zero_add]
      exact Nat.mul_le_mul_right _ fc
     have gD:=uy (ty:=o.type) ht hi B.b len cap cur ly ⟨yb,yo,none⟩ ys.length c news (by rw[iQ];exact q1) (fun j v hj=>by rw[ju];exact q2 j v hj) q4 fc Aw
     have kB:cur.toList.length=cur.size:=Array.length_toList
     simp only[iQ]at gD Aw
     obtain⟨P1,P2⟩:=S.put (r':=⟨true,m+1,r.rows++ys⟩) hg c1 hB ly (cur':=(cur.toList.take (len*(m+1))++news++cur.toList.drop (len*(m+1)+news.length)).toArray) (by simp only[List.size_toArray,List.length_append,List.length_take,List.length_drop,kB];omega) rfl c2.symm
      (by dsimp only;rw[List.length_append,<-c3,<-Cb];refine Nat.le_trans (Nat.mul_le_mul_right _ fc) (Nat.le_trans (by simp) h3)) wK Ju (fun k j cs b2 hk hj=>by
       simp only[List.getElem?_toArray]
       have gn:j<m+1:=by rw[<-wK cs (List.mem_of_getElem? hk)];exact(List.getElem?_eq_some_iff.1 hj).1
       rw[c2]
       by_cases kK:k<r.rows.length
       ·rw[List.getElem?_append_left kK]at hk
        have h2:k*(m+1)+j<len*(m+1):=jb ab gn
        rw[List.append_assoc,List.getElem?_append_left (by simp only[List.length_take,kB];omega),List.getElem?_take,if_pos h2]
        have:=sO k j cs b2 hk hj
        rw[c2]at this;simpa using this
       ·rw[List.getElem?_append_right ab]at hk
        have sQ:=(List.getElem?_eq_some_iff.1 hk).1
        have kV:len*(m+1)<=k*(m+1):=Nat.mul_le_mul_right _ ab
        have oG:k*(m+1)+j-len*(m+1)=(k-r.rows.length)*(m+1)+j:=by
         rw[<-c3,Nat.sub_mul];omega
        obtain⟨u,hu,uo⟩:=q3.2 _ _ (flat_get hl hk hj)
        refine⟨u,?_,uo⟩
        have Ck:news[(k-r.rows.length)*(m+1)+j]? =some u:=by simpa using hu
        have dD:=(List.getElem?_eq_some_iff.1 Ck).1
        rw[List.append_assoc,List.getElem?_append_right (by simp only[List.length_take,kB];omega),List.getElem?_append_left (by simp only[List.length_take,kB];omega)]
        rw[<-Ck]
        congr 1
        simp only[List.length_take,kB]
        omega)
     have dQ:bI (bU (bI g i0 ⟨true,m+1,r.rows++ys⟩) i0) id ⟨true,m+1,r.rows++ys⟩=bI (bU g i0) id ⟨true,m+1,r.rows++ys⟩:=by
      funext q;simp only[bI,bU]
      by_cases h:q=id<;>by_cases h':q=i0<;>simp[h,h']
     have Dy:=P1.rename (i:=i0) (id:=id) (r:=⟨true,m+1,r.rows++ys⟩) (by simp[bI]) rfl hB hn
     rw[dQ]at Dy
     refine⟨_,_,_,.inl (fj ho (by rw[ex,ey];exact gD)),P2.trans ⟨Below.refl _ _,fun _ _=>rfl,fun _ h=>h,fv hn,fun _ h=>.inl h⟩,Dy,?_,fun _ h=>fu h⟩
     exact .own _ _ _ _ _ B (dL _ _ _) hk fc (.inr (by simp)) h3 h4
    ·
     have holds:∃rM:List Value,rM.length=len*(m+1)/\(∀j v,rM[j]? =some v->w.cell? ⟨B.b,oo+j,none⟩=some v)/\eP P w D ι r.rows.flatten rM.toArray:=by
      obtain⟨A2,c2',e2,h2⟩:=pG (sz:=m+1) (u:=.slice (some ⟨B.b,oo,none⟩) len cap) S (.own i0 0 len oo cap B hB hk h1 xo h3 h4) (ys:=r.rows) (by simp[br,hg,c3]) (fun cs h=>by rw[<-c2];exact R.len cs h) R.flat
      rcases h2 with h2|⟨b2,o2,rM,rfl,p1,p2,p3,_⟩
      ·refine⟨[],by simp[c3,h2],fun j v h=>by simp at h,by rw[h2];exact⟨rfl,fun j a h=>by simp at h⟩⟩
      ·injection e2 with e2 _ _
       injection e2 with e2
       injection e2 with Hj e22 _
       subst Hj;subst e22
       exact⟨rM,by rw[p1,c3],p2,p3⟩
     obtain⟨rM,p1,p2,p3⟩:=holds
     have gD:=run_append_grow (P:=P) w t o.type e i zv ht hi sW ⟨B.b,oo,none⟩ len cap rM (by rw[iQ];exact p1) (fun j v hj=>by rw[ju];exact p2 j v hj) ⟨yb,yo,none⟩ ys.length c news (by rw[iQ];exact q1) (fun j v hj=>by rw[ju];exact q2 j v hj) ab (e63 _ c4) (growslice_fits ab (fits _ c4))
     obtain⟨g1,g2⟩:=yv w (len+ys.length) cap e c4
     have dh:(rM.toArray++news.toArray++Builtin.zeroCells zv.cells (grownCap w (len+ys.length) cap e-(len+ys.length))).size=grownCap w (len+ys.length) cap e*(m+1):=by
      rw[Array.size_append,Array.size_append,size_zeroCells,MJ,iQ]
      simp only[List.size_toArray,q1,p1]
      rw[<-Nat.add_mul,<-Nat.add_mul];congr 1;omega
     have S1:=(S.kill i0).alloc (id:=id) (w':=w.drew.alloc (.cells (rM.toArray++news.toArray++Builtin.zeroCells zv.cells (grownCap w (len+ys.length) cap e-(len+ys.length))) e)) (r:=⟨true,m+1,r.rows++ys⟩) rfl hn rfl (by dsimp only;rw[dh,List.length_append,<-c3];exact Nat.mul_le_mul_right _ g1) wK Ju
      (fun k j cs b2 hk hj=>by
       have H9:=flat_get wK hk hj
       rw[List.flatten_append]at H9
       have hol:rM.length=r.rows.flatten.length:=by have:=p3.1;simpa using this
       dsimp only
       by_cases dD:k*(m+1)+j<r.rows.flatten.length
       ·rw[List.getElem?_append_left dD]at H9
        obtain⟨u,hu,uo⟩:=p3.2 _ _ H9
        refine⟨u,?_,uo⟩
        rw[Array.getElem?_append_left (by simp;omega),Array.getElem?_append_left (by simp;omega)];exact hu
       ·rw[List.getElem?_append_right ab]at H9
        obtain⟨u,hu,uo⟩:=q3.2 _ _ H9
        refine⟨u,?_,uo⟩
        have yF:=(Array.getElem?_eq_some_iff.1 hu).1
        simp only[List.size_toArray]at yF
        rw[Array.getElem?_append_left (by simp;omega),Array.getElem?_append_right (by simp;omega)]
        simp only[List.size_toArray,hol];exact hu)
     have dS:=zj (T:=e) S (rM.toArray++news.toArray++Builtin.zeroCells zv.cells (grownCap w (len+ys.length) cap e-(len+ys.length))) hn ⟨w.heap.size,m+1,(rM.toArray++news.toArray++Builtin.zeroCells zv.cells (grownCap w (len+ys.length) cap e-(len+ys.length))).size,none⟩
     refine⟨_,_,_,.inl (fj ho (by rw[ex,ey];exact gD)),dS,S1,?_,fun _ h=>fu h⟩
     refine .own _ _ _ _ _ _ (dL _ _ _) rfl g1 (.inr (by simp)) ?_ g2
     dsimp only;rw[dh];simp
  ·simp at hv
 ·simp at hv
theorem jZ {x:Operand} {t:TypeId} {u:Value} (ho:o.op=.call {callee:=.builtin .clear,args:= #[x],argTypes:= #[t]}) (h:(Builtin.clear_ #[t] o.type #[a.eval x]).run P w=.ok u w'):(execOp a.eval o).run P w=.ok (.value u) w':=by
 simp only[execOp,ho,resolve,Sem.run_bind,Sem.run_pure,Result.andThen_ok,invoke,builtin]
 simp only[List.map_toArray,List.map_cons,List.map_nil]
 rw[h];rfl
theorem HU {x:Operand} {x':O} {t e:TypeId} {m:Nat} {z:List K} {g':Rows} (S:fG P hs D ι g w) (E:bt P w D ι env a) (ho:o.op=.call {callee:=.builtin .clear,args:= #[x],argTypes:= #[t]})
  (ht:P.underlying t=some (.slice e)) (eT:dw P e=some (m+1)) (hz:iT P e=some z) (hx:cO P x=some x') (hv:bJ g z (cu env x')=some g'):zG P hs a o w D ι id .undef g':=by
 have rx:=cC E hx
 obtain⟨it,zv,hi,sW,MJ,hm,Co⟩:=jf hz
 have iQ:it.size=m+1:=by simpa[dw,hi]using eT
 unfold bJ at hv
 split at hv
 ·rename_i hb
  rw[hb]at rx
  simp at hv;subst hv
  refine⟨undef,w,ι,.inl (jZ ho (by rw[js rx];simp only[Builtin.clear_,Sem.run_bind];simp[run_underlying ht,undef])),Step.refl _ _ _ _,S,cv.undef,fun _ _=>rfl⟩
 ·rename_i i off len hb
  rw[hb]at rx
  simp only[Option.bind_eq_some_iff]at hv
  obtain⟨r,hg,hv⟩:=hv
  split at hv
  ·rename_i hc
   obtain⟨c1,c2,c3⟩:=hc
   simp only[Option.some.injEq]at hv;subst hv
   obtain⟨oo,cap,B,ex,hB,h1,h2,h3,h4,hk⟩:=iI rx
   obtain⟨B',dk,R,jH,lD⟩:=S.row _ _ hg
   rw[hB]at dk;injection dk with dk;subst dk
   replace R:=R.row hk
   obtain⟨cur,T,ly,hC,sO⟩:=R.cur
   by_cases h0:len=0
   ·subst h0
    have e1:({r with rows:=r.rows.take off++List.replicate 0 (z.map K.av)++r.rows.drop (off+0)}:Row)=r:=by cases r;simp
    rw[e1]
    have e2:bI g i r=g:=by
     funext q;unfold bI;split
     ·rename_i h;rw[h,hg]
     ·rfl
    rw[e2]
    refine⟨undef,w,ι,.inl (jZ ho (by rw[ex];simp only[Builtin.clear_,Sem.run_bind];simp[run_underlying ht,undef])),Step.refl _ _ _ _,S,cv.undef,fun _ _=>rfl⟩
   ·have Ch:oo=off*B.sz:=by rcases h2 with h2|h2<;>omega
    have Cb:B.sz=m+1:=by rw[R.sz,c2,Co,iQ]
    have uZ:r.sz=m+1:=by rw[<-R.sz,Cb]
    have Oe:zv.cells.size=m+1:=by rw[MJ,iQ]
    have u7:(Builtin.zeroCells zv.cells len).toList.length=len*(m+1):=by rw[Array.length_toList,size_zeroCells,Oe]
    have Od:∀k,k<len*(m+1)->∃c,z[k % z.length]? =some c/\(Builtin.zeroCells zv.cells len).toList[k]? =some c.val:=fun k hk=>by
     obtain⟨c,od,Dr⟩:=nv (n:=len*zv.cells.size) hm (by rw[Co,iQ];omega) k (by rw[Oe];exact hk)
     exact⟨c,od,by rw[Array.getElem?_toList];exact Dr⟩
    have hbound:(off+len)*(m+1)<=r.rows.length*(m+1):=Nat.mul_le_mul_right _ c3
    have FM:=R.fits
    rw[uZ]at FM
    have Qr:(off+len)*(m+1)=off*(m+1)+len*(m+1):=Nat.add_mul _ _ _
    have dS:=run_storeCells_at P B.b oo T (Builtin.zeroCells zv.cells len).toList 0 cur w ly (by rw[u7,hC,Ch,Cb];omega) (by
     intro v hv
     obtain⟨k,hk,rfl⟩:=List.getElem_of_mem hv
     obtain⟨c,_,Dr⟩:=Od k (by rw[<-u7];exact hk)
     rw[List.getElem?_eq_getElem hk]at Dr
     injection Dr with Dr
     rw[Dr];cases c<;>rfl)
    simp only[Nat.add_zero]at dS
    have kB:cur.toList.length=cur.size:=Array.length_toList
    obtain⟨P1,P2⟩:=S.put (r':={r with rows:=r.rows.take off++List.replicate len (z.map K.av)++r.rows.drop (off+len)}) hg c1 hB ly (cur':=(cur.toList.take oo++(Builtin.zeroCells zv.cells len).toList++cur.toList.drop (oo+(Builtin.zeroCells zv.cells len).toList.length)).toArray)
     (by simp only[List.size_toArray,List.length_append,List.length_take,List.length_drop,kB,u7];rw[Ch,Cb];omega) c1 rfl (by
      have:(r.rows.take off++List.replicate len (z.map K.av)++r.rows.drop (off+len)).length=r.rows.length:=by simp;omega
      dsimp only;rw[this];exact R.fits) (fun cs dh=>by
      rcases List.mem_append.1 dh with h|h
      ·rcases List.mem_append.1 h with h|h
       ·exact R.len cs (List.mem_of_mem_take h)
       ·rw[List.eq_of_mem_replicate h];simp[c2]
      ·exact R.len cs (List.mem_of_mem_drop h)) (fun cs dh b hb=>by
      rcases List.mem_append.1 dh with h|h
      ·rcases List.mem_append.1 h with h|h
       ·exact R.flat cs (List.mem_of_mem_take h) b hb
       ·rw[List.eq_of_mem_replicate h]at hb
        obtain⟨c,_,rfl⟩:=List.mem_map.1 hb;exact c.ll
      ·exact R.flat cs (List.mem_of_mem_drop h) b hb) (fun k j cs b hk hj=>by
      simp only[List.getElem?_toArray]
      rw[uZ]
      rw[Ch,Cb,u7]
      by_cases qm:k<off
      ·rw[List.append_assoc,List.getElem?_append_left (by simp;omega),List.getElem?_take,if_pos qm]at hk
       have gn:j<m+1:=by rw[<-uZ,<-R.len cs (List.mem_of_getElem? hk)];exact(List.getElem?_eq_some_iff.1 hj).1
       have h2:=jb qm gn
       rw[List.append_assoc,List.getElem?_append_left (by simp only[List.length_take,kB];omega),List.getElem?_take,if_pos h2]
       have:=sO k j cs b hk hj
       rw[uZ]at this;simpa using this
      ·by_cases sQ:k<off+len
       ·rw[List.append_assoc,List.getElem?_append_right (by simp;omega),List.getElem?_append_left (by simp;omega)]at hk
        have fY:=List.eq_of_mem_replicate (List.mem_of_getElem? hk)
        subst fY
        simp only[List.getElem?_map,Option.map_eq_some_iff]at hj
        obtain⟨q,hq,rfl⟩:=hj
        have gn:=(List.getElem?_eq_some_iff.1 hq).1
        rw[Co,iQ]at gn
        have kV:off*(m+1)<=k*(m+1):=Nat.mul_le_mul_right _ ab
        have oG:k*(m+1)+j-off*(m+1)=(k-off)*(m+1)+j:=by rw[Nat.sub_mul];omega
        have yF:(k-off)*(m+1)+j<len*(m+1):=jb ab gn
        rw[List.append_assoc,List.getElem?_append_right (by simp only[List.length_take,kB];omega),List.getElem?_append_left (by simp only[List.length_take,kB,u7];omega)]
        obtain⟨c,od,Dr⟩:=Od _ yF
        rw[Co,iQ,Nat.mul_comm (k-off),Nat.mul_add_mod,Nat.mod_eq_of_lt gn,hq]at od
        injection od with od;subst od
        refine⟨q.val,?_,tk q⟩
        rw[<-Dr]
        congr 1
        simp only[List.length_take,kB];omega
       ·rw[List.getElem?_append_right (by simp;omega)]at hk
        simp only[List.length_append,List.length_take,List.length_replicate,List.getElem?_drop]at hk
        rw[show off+len+(k-(min off r.rows.length+len))=k by omega]at hk
        have kK:=(List.getElem?_eq_some_iff.1 hk).1
        have kV:(off+len)*(m+1)<=k*(m+1):=Nat.mul_le_mul_right _ ab
        rw[List.getElem?_append_right (by simp only[List.length_append,List.length_take,kB,u7];omega)]
        simp only[List.length_append,List.length_take,kB,u7,List.getElem?_drop]
        rw[show off*(m+1)+len*(m+1)+(k*(m+1)+j-(min (off*(m+1)) cur.size+len*(m+1)))=k*(m+1)+j by omega]
        have:=sO k j cs b hk hj
        rw[uZ]at this;simpa using this)
    refine⟨undef,_,ι,.inl (jZ ho ?_),P2,P1,cv.undef,fun _ _=>rfl⟩
    rw[ex]
    cases len with
    |zero=>exact(h0 rfl).elim
    |succ len=>
     simp only[Builtin.clear_,Sem.run_bind]
     simp[run_underlying ht,zeroValue,typeInfo,hi,sW,dS,undef]
  ·simp at hv
 ·simp at hv
theorem Eh {dT sT ty e:TypeId} {it:TypeInfo} (hu:P.underlying dT=some (.slice e)) (hi:P.info? e=some it) (A B:Option Addr) (pJ Bp C6 Kq:Nat) (h0:Nat.min pJ C6=0):
  (Builtin.copy_ #[dT,sT] ty #[.slice A C6 Kq,.slice B pJ Bp]).run P w=.ok (goInt 0) w:=by
 cases A<;>cases B<;>simp[Builtin.copy_,run_underlying hu,Builtin.lenOf,Builtin.firstCells,sizeOf,typeInfo,hi,h0,storeCells,loadCells,loadCellsFrom]
theorem Ei {dT sT ty e:TypeId} {it:TypeInfo} (hu:P.underlying dT=some (.slice e)) (hi:P.info? e=some it) (A B:Addr) (pJ Bp C6 Kq:Nat) (cs:List Value) (hn:cs.length=Nat.min pJ C6*it.size) (hl:(loadCells B cs.length).run P w=.ok cs.toArray w) (hs:(storeCells A cs).run P w=.ok () w'):
  (Builtin.copy_ #[dT,sT] ty #[.slice (some A) C6 Kq,.slice (some B) pJ Bp]).run P w=.ok (goInt (Nat.min pJ C6)) w':=by
 simp[Builtin.copy_,run_underlying hu,Builtin.lenOf,Builtin.firstCells,sizeOf,typeInfo,hi,<-hn,hl,hs]
theorem oh {x y:Operand} {t t2:TypeId} {u:Value} (ho:o.op=.call {callee:=.builtin .copy,args:= #[x,y],argTypes:= #[t,t2]}) (h:(Builtin.copy_ #[t,t2] o.type #[a.eval x,a.eval y]).run P w=.ok u w'):(execOp a.eval o).run P w=.ok (.value u) w':=by
 simp only[execOp,ho,resolve,Sem.run_bind,Sem.run_pure,Result.andThen_ok,invoke,builtin]
 simp only[List.map_toArray,List.map_cons,List.map_nil]
 rw[h];rfl
theorem Kr {x y:Operand} {x' y':O} {t t2 e:TypeId} {m:Nat} {ys:List (List AV)} {v:AV} {g':Rows} (S:fG P hs D ι g w) (E:bt P w D ι env a) (ho:o.op=.call {callee:=.builtin .copy,args:= #[x,y],argTypes:= #[t,t2]})
  (ht:P.underlying t=some (.slice e)) (eT:dw P e=some (m+1)) (hx:cO P x=some x') (hy:cO P y=some y') (Cn:br g (cu env y')=some ys) (hv:CE g (m+1) (cu env x') ys=some (v,g')):zG P hs a o w D ι id v g':=by
 have rx:=cC E hx
 have ry:=cC E hy
 obtain⟨it,hi,iQ⟩:∃it,P.info? e=some it/\it.size=m+1:=by
  cases hq:P.info? e with
  |none=>simp[dw,hq]at eT
  |some it=>exact⟨it,rfl,by simpa[dw,hq]using eT⟩
 unfold CE at hv
 split at hv
 ·rename_i i off len hb
  rw[hb]at rx
  simp only[Option.bind_eq_some_iff]at hv
  obtain⟨r,hg,hv⟩:=hv
  split at hv
  ·rename_i hc
   obtain⟨c1,c2,c3,c4⟩:=hc
   simp only[Option.some.injEq,Prod.mk.injEq]at hv
   obtain⟨rfl,rfl⟩:=hv
   rw[List.all_eq_true]at c4
   have hl:∀c∈ys,c.length=m+1:=fun c hc=>by have:=c4 c hc;simp at this;exact this.1
   have hf:∀c∈ys,∀b∈c,b.cell=true:=fun c hc b hb=>by have:=c4 c hc;simp at this;exact this.2 b hb
   obtain⟨oo,cap,B,ex,hB,h1,h2,h3,h4,hk⟩:=iI rx
   obtain⟨B',dk,R,jH,lD⟩:=S.row _ _ hg
   rw[hB]at dk;injection dk with dk;subst dk
   replace R:=R.row hk
   obtain⟨cur,T,ly,hC,sO⟩:=R.cur
   obtain⟨A,sc,hu,hA⟩:=pG S ry Cn hl hf
   by_cases h0:min ys.length len=0
   ·rw[h0]
    have e1:({r with rows:=r.rows.take off++ys.take 0++r.rows.drop (off+0)}:Row)=r:=by cases r;simp
    rw[e1]
    have e2:bI g i r=g:=by
     funext q;unfold bI;split
     ·rename_i h;rw[h,hg]
     ·rfl
    rw[e2]
    refine⟨goInt 0,w,ι,.inl (oh ho (by rw[ex,hu];exact Eh ht hi _ _ _ _ _ _ h0)),Step.refl _ _ _ _,S,.ew _ _ (.int _ _),fun _ _=>rfl⟩
   ·rcases hA with rfl|⟨b,o2,news,rfl,QJ,hsrc,hR,h1c⟩
    ·simp at h0
    have NQ:Nat.min ys.length len=min ys.length len:=rfl
    have hky:min ys.length len<=ys.length:=Nat.min_le_left _ _
    have kK:min ys.length len<=len:=Nat.min_le_right _ _
    generalize QB:min ys.length len=kk at *
    have JH:len≠0:=ab
    have Ch:oo=off*B.sz:=by rcases h2 with h2|h2<;>omega
    have Cb:B.sz=m+1:=by rw[R.sz,c2]
    have uZ:r.sz=m+1:=c2
    have Pd:kk*(m+1)<=ys.length*(m+1):=Nat.mul_le_mul_right _ hky
    have u7:(news.take (kk*(m+1))).length=kk*(m+1):=by rw[List.length_take,QJ];omega
    have hbound:(off+kk)*(m+1)<=r.rows.length*(m+1):=Nat.mul_le_mul_right _ ab
    have FM:=R.fits
    rw[uZ]at FM
    have Qr:(off+kk)*(m+1)=off*(m+1)+kk*(m+1):=Nat.add_mul _ _ _
    have dS:=run_storeCells_at P B.b oo T (news.take (kk*(m+1))) 0 cur w ly (by rw[u7,hC,Ch,Cb];omega) (fun v hv=>h1c v (List.mem_of_mem_take hv))
    have Ph:=run_loadCells_list (P:=P) w ⟨b,o2,none⟩ (news.take (kk*(m+1))) (fun j v hj=>by
     rw[List.getElem?_take]at hj
     split at hj
     ·have:=hsrc j v hj
      cases j with
      |zero=>simpa[Addr.add]using this
      |succ j=>simpa[Addr.add]using this
     ·cases hj)
    simp only[Nat.add_zero]at dS
    have kB:cur.toList.length=cur.size:=Array.length_toList
    have htl:(ys.take kk).length=kk:=by rw[List.length_take];omega
    obtain⟨P1,P2⟩:=S.put (r':={r with rows:=r.rows.take off++ys.take kk++r.rows.drop (off+kk)}) hg c1 hB ly (cur':=(cur.toList.take oo++news.take (kk*(m+1))++cur.toList.drop (oo+(news.take (kk*(m+1))).length)).toArray)
     (by simp only[List.size_toArray,List.length_append,List.length_drop,kB,u7];rw[List.length_take,kB,Ch,Cb];omega) c1 rfl (by
      have:(r.rows.take off++ys.take kk++r.rows.drop (off+kk)).length=r.rows.length:=by simp;omega
      dsimp only;rw[this];exact R.fits) (fun cs dh=>by
      rcases List.mem_append.1 dh with h|h
      ·rcases List.mem_append.1 h with h|h
       ·exact R.len cs (List.mem_of_mem_take h)
       ·rw[hl cs (List.mem_of_mem_take h)];exact c2.symm
      ·exact R.len cs (List.mem_of_mem_drop h)) (fun cs dh b hb=>by
      rcases List.mem_append.1 dh with h|h
      ·rcases List.mem_append.1 h with h|h
       ·exact R.flat cs (List.mem_of_mem_take h) b hb
       ·exact hf cs (List.mem_of_mem_take h) b hb
      ·exact R.flat cs (List.mem_of_mem_drop h) b hb) (fun k j cs b hk hj=>by
      simp only[List.getElem?_toArray]
      rw[uZ]
      rw[Ch,Cb,u7]
      by_cases qm:k<off
      ·rw[List.append_assoc,List.getElem?_append_left (by simp;omega),List.getElem?_take,if_pos qm]at hk
       have gn:j<m+1:=by rw[<-uZ,<-R.len cs (List.mem_of_getElem? hk)];exact(List.getElem?_eq_some_iff.1 hj).1
       have h2:=jb qm gn
       rw[List.append_assoc,List.getElem?_append_left (by simp only[List.length_take,kB];omega),List.getElem?_take,if_pos h2]
       have:=sO k j cs b hk hj
       rw[uZ]at this;simpa using this
      ·by_cases sQ:k<off+kk
       ·rw[List.append_assoc,List.getElem?_append_right (by simp;omega),List.getElem?_append_left (by simp;omega)]at hk
        simp only[List.length_take]at hk
        rw[show k-min off r.rows.length=k-off by omega,List.getElem?_take,if_pos ab]at hk
        have gn:j<m+1:=by rw[<-hl cs (List.mem_of_getElem? hk)];exact(List.getElem?_eq_some_iff.1 hj).1
        have kV:off*(m+1)<=k*(m+1):=Nat.mul_le_mul_right _ ab
        have oG:k*(m+1)+j-off*(m+1)=(k-off)*(m+1)+j:=by rw[Nat.sub_mul];omega
        have yF:(k-off)*(m+1)+j<kk*(m+1):=jb ab gn
        rw[List.append_assoc,List.getElem?_append_right (by simp only[List.length_take,kB];omega),List.getElem?_append_left (by rw[u7];simp only[List.length_take,kB];omega)]
        obtain⟨u,N4,MD⟩:=hR.2 ((k-off)*(m+1)+j) b (flat_get hl hk hj)
        refine⟨u,?_,MD⟩
        rw[List.getElem?_take]
        simp only[List.length_take,kB]
        rw[show k*(m+1)+j-min (off*(m+1)) cur.size=(k-off)*(m+1)+j by omega,if_pos yF]
        simpa using N4
       ·rw[List.getElem?_append_right (by simp;omega)]at hk
        simp only[List.length_append,List.length_take,List.getElem?_drop]at hk
        rw[show off+kk+(k-(min off r.rows.length+min kk ys.length))=k by omega]at hk
        have kK:=(List.getElem?_eq_some_iff.1 hk).1
        have kV:(off+kk)*(m+1)<=k*(m+1):=Nat.mul_le_mul_right _ ab
        rw[List.getElem?_append_right (by rw[List.length_append,u7];simp only[List.length_take,kB];omega)]
        rw[List.getElem?_drop,List.length_append,u7]
        simp only[List.length_take,kB]
        rw[show off*(m+1)+kk*(m+1)+(k*(m+1)+j-(min (off*(m+1)) cur.size+kk*(m+1)))=k*(m+1)+j by omega]
        have:=sO k j cs b hk hj
        rw[uZ]at this;simpa using this)
    refine⟨goInt kk,_,ι,.inl (oh ho ?_),P2,P1,.ew _ _ (.int _ _),fun _ _=>rfl⟩
    rw[ex,hu]
    have:=Ei (w:=w) (sT:=t2) (ty:=o.type) ht hi ⟨B.b,oo,none⟩ ⟨b,o2,none⟩ ys.length sc len cap _ (by rw[u7,NQ,iQ]) Ph dS
    rw[NQ]at this
    exact this
  ·simp at hv
 ·simp at hv
end
end Go.Proofs.YtihgaadadaekmaaGreatDoor.V

namespace Go.Proofs.YtihgaadadaekmaaGreatDoor.V
open Go.RowKit
variable {P:Program} {w w':World} {D D' D2:Nat->Prop} {ι ι' ι2:Names}
section
variable {g:Rows} {hs:Nat}
theorem fC:∀{n:Nat} {l r:List AV},bY g n l=some r->r.length=l.length/\∀(j:Nat) (b:AV),r[j]? =some b->∃a,l[j]? =some a/\fz g n a=some b
 |n,[],r,h=>by
  rw[bY]at h;simp at h;subst h;simp
 |n,a::l,r,h=>by
  rw[bY]at h
  split at h
  ·rename_i b hb
   simp only[Option.map_eq_some_iff]at h
   obtain⟨r',hr,rfl⟩:=h
   obtain⟨h1,h2⟩:=fC hr
   refine⟨by simp[h1],fun j c hj=>?_⟩
   cases j with
   |zero=>simp at hj;subst hj;exact⟨a,rfl,hb⟩
   |succ j=>simp at hj ⊢;exact h2 j c hj
  ·simp at h
theorem sL:∀{n:Nat} {l r:List (List AV)},dy g n l=some r->r.length=l.length/\∀(j:Nat) (b:List AV),r[j]? =some b->∃a,l[j]? =some a/\bY g n a=some b
 |n,[],r,h=>by
  rw[dy]at h;simp at h;subst h;simp
 |n,a::l,r,h=>by
  rw[dy]at h
  split at h
  ·rename_i b hb
   simp only[Option.map_eq_some_iff]at h
   obtain⟨r',hr,rfl⟩:=h
   obtain⟨h1,h2⟩:=sL hr
   refine⟨by simp[h1],fun j c hj=>?_⟩
   cases j with
   |zero=>simp at hj;subst hj;exact⟨a,rfl,hb⟩
   |succ j=>simp at hj ⊢;exact h2 j c hj
  ·simp at h
theorem pf (hD:∀b,D b->D2 b) (CX:∀id row,g id=some row->row.w=true->∃B,ι id=some B/\gN P w D ι B row/\D2 B.b):∀(n:Nat) (a:AV) (u:Value) (r:AV),cv P w D ι a u->fz g n a=some r->cv P w D2 ι2 r u/\(a.cell=true->jk P w D2 r u/\r.cell=true):=by
 intro n
 induction n with
 |zero=>intro a u r _ h;rw[fz]at h;simp at h
 |succ n ih=>
  intro a u r hr h
  have both:∀{r:AV},jk P w D2 r u->r.cell=true->cv P w D2 ι2 r u/\(a.cell=true->jk P w D2 r u/\r.cell=true):=fun h1 h2=>⟨.ew _ _ h1,fun _=>⟨h1,h2⟩⟩
  cases a with
  |map id m=>rw[fz]at h;cases h
  |qf id=>rw[fz]at h;cases h
  |own id off len=>
   rw[fz]at h
   split at h
   ·rename_i row hg
    split at h
    ·rename_i hw
     split at h
     ·rename_i hle
      simp only[Option.map_eq_some_iff]at h
      obtain⟨rows,pk,rfl⟩:=h
      obtain⟨B,hB,R,KI⟩:=CX id row hg hw
      obtain⟨o,cap,B',rfl,dk,h1,h2,h3,h4,hk⟩:=iI hr
      rw[hB]at dk;injection dk with dk;subst dk
      replace R:=R.row hk
      obtain⟨l1,l2⟩:=sL pk
      have hlen:rows.length=len:=by rw[l1];simp;omega
      by_cases h0:rows=[]
      ·subst h0
       simp at hlen;subst hlen
       exact both (.zE _ _ h4) rfl
      ·have hlp:0<len:=by rw[<-hlen];exact List.length_pos_iff.2 h0
       have ho:o=off*B.sz:=by rcases h2 with h2|h2<;>omega
       have src:∀i cs,rows[i]? =some cs->∃c0,row.rows[off+i]? =some c0/\bY g n c0=some cs:=fun i cs hi=>by
        obtain⟨c0,iU,hf⟩:=l2 i cs hi
        rw[List.getElem?_take]at iU
        split at iU
        ·rw[List.getElem?_drop]at iU;exact⟨c0,iU,hf⟩
        ·simp at iU
       have cell:∀i j,i<len->j<row.sz->∃c0 a0 v,row.rows[off+i]? =some c0/\c0[j]? =some a0/\w.cell? ⟨B.b,o+(i*row.sz+j),none⟩=some v/\cv P w D ι a0 v:=fun i j hi hj=>by
        have oW:off+i<row.rows.length:=ab
        have e1:=List.getElem?_eq_getElem oW
        have JG:j<row.rows[off+i].length:=by rw[R.len _ (List.getElem_mem oW)];exact hj
        obtain⟨v,hv,kM⟩:=R.at_ _ _ _ _ e1 (List.getElem?_eq_getElem JG)
        refine⟨_,_,v,e1,List.getElem?_eq_getElem JG,?_,kM⟩
        rw[ho,R.sz,<-hv]
        congr 2
        rw[Nat.add_mul];omega
       refine both (.sl rows B.b o len cap row.sz (fun i j=>(w.cell? ⟨B.b,o+(i*row.sz+j),none⟩).getD undef) hlen h1 h4 KI (fun cs dh=>?_) (fun cs dh b hb=>?_) (fun i j hi hj=>?_) (fun i j cs b hi hj=>?_)) rfl
       ·obtain⟨i,hi,rfl⟩:=List.getElem_of_mem dh
        obtain⟨c0,iU,hf⟩:=src i _ (List.getElem?_eq_getElem hi)
        rw[(fC hf).1];exact R.len c0 (List.mem_of_getElem? iU)
       ·obtain⟨i,hi,rfl⟩:=List.getElem_of_mem dh
        obtain⟨c0,iU,hf⟩:=src i _ (List.getElem?_eq_getElem hi)
        obtain⟨j,hj,rfl⟩:=List.getElem_of_mem hb
        obtain⟨a0,j8,FL⟩:=(fC hf).2 j _ (List.getElem?_eq_getElem hj)
        obtain⟨v,_,kM⟩:=R.at_ _ _ _ _ iU j8
        exact((ih _ _ _ kM FL).2 (R.flat c0 (List.mem_of_getElem? iU) a0 (List.mem_of_getElem? j8))).2
       ·obtain⟨c0,a0,v,_,_,hv,_⟩:=cell i j hi hj
        simp only[hv,Option.getD_some]
       ·obtain⟨c0,iU,hf⟩:=src i cs hi
        obtain⟨a0,j8,FL⟩:=(fC hf).2 j b hj
        have oe:i<len:=by rw[<-hlen];exact(List.getElem?_eq_some_iff.1 hi).1
        have gn:j<row.sz:=by rw[<-R.len c0 (List.mem_of_getElem? iU)];exact(List.getElem?_eq_some_iff.1 j8).1
        obtain⟨c1,a1,v,e1,e2,hv,kM⟩:=cell i j oe gn
        rw[iU]at e1;injection e1 with e1;subst e1
        rw[j8]at e2;injection e2 with e2;subst e2
        simp only[hv,Option.getD_some]
        exact((ih _ _ _ kM FL).2 (R.flat c0 (List.mem_of_getElem? iU) a0 (List.mem_of_getElem? j8))).1
     ·simp at h
    ·simp at h
   ·simp at h
  |ptr id i off=>
   rw[fz]at h
   split at h
   ·rename_i row hg
    split at h
    ·rename_i hw
     split at h
     ·rename_i c0 iU
      simp only[Option.map_eq_some_iff]at h
      obtain⟨cs,dh,rfl⟩:=h
      obtain⟨B,hB,R,KI⟩:=CX id row hg hw
      obtain⟨B',rfl,dk,hk⟩:=iJ hr
      rw[hB]at dk;injection dk with dk;subst dk
      replace R:=R.row hk
      obtain⟨l1,l2⟩:=fC dh
      have at_:∀j b,cs[j]? =some b->∃a0 v,w.cell? ⟨B.b,i*B.sz+off+j,none⟩=some v/\cv P w D ι a0 v/\a0.cell=true/\fz g n a0=some b:=fun j b hj=>by
       obtain⟨a0,j8,hf⟩:=l2 j b hj
       rw[List.getElem?_drop]at j8
       obtain⟨v,hv,kM⟩:=R.at_ _ _ _ _ iU j8
       refine⟨a0,v,?_,kM,R.flat c0 (List.mem_of_getElem? iU) a0 (List.mem_of_getElem? j8),hf⟩
       rw[R.sz,Nat.add_assoc];exact hv
      refine both (.cH cs B.b _ (fun j=>(w.cell? ⟨B.b,i*B.sz+off+j,none⟩).getD undef) KI (fun b hb=>?_) (fun j hj=>?_) (fun j b hj=>?_)) rfl
      ·obtain⟨j,hj,rfl⟩:=List.getElem_of_mem hb
       obtain⟨a0,v,_,kM,hc,hf⟩:=at_ j _ (List.getElem?_eq_getElem hj)
       exact((ih _ _ _ kM hf).2 hc).2
      ·obtain⟨a0,v,hv,_⟩:=at_ j _ (List.getElem?_eq_getElem hj)
       simp only[hv,Option.getD_some]
      ·obtain⟨a0,v,hv,kM,hc,hf⟩:=at_ j b hj
       simp only[hv,Option.getD_some]
       exact((ih _ _ _ kM hf).2 hc).1
     ·simp at h
    ·simp at h
   ·simp at h
  |agg cs=>
   rw[fz]at h
   simp only[Option.map_eq_some_iff]at h
   obtain⟨r',mo,rfl⟩:=h
   obtain⟨vs,f,rfl,h1,h2,h3,h4⟩:=gT hr
   obtain⟨l1,l2⟩:=fC mo
   have hI:jk P w D2 (.agg r') (.agg vs):=.agg r' vs f (by rw[h1,l1]) (fun b hb=>by
    obtain⟨j,hj,rfl⟩:=List.getElem_of_mem hb
    obtain⟨a0,j8,hf⟩:=l2 j _ (List.getElem?_eq_getElem hj)
    exact((ih _ _ _ (h4 j a0 j8) hf).2 (h2 a0 (List.mem_of_getElem? j8))).2) (fun j hj=>h3 j (by rw[<-l1];exact hj)) (fun j b hj=>by
    obtain⟨a0,j8,hf⟩:=l2 j b hj
    exact((ih _ _ _ (h4 j a0 j8) hf).2 (h2 a0 (List.mem_of_getElem? j8))).1)
   exact⟨.ew _ _ hI,fun hc=>by simp[AV.cell]at hc⟩
  |gU cs=>
   rw[fz]at h
   simp only[Option.map_eq_some_iff]at h
   obtain⟨r',mo,rfl⟩:=h
   obtain⟨vs,f,rfl,h1,h3,h4⟩:=r9 hr
   obtain⟨l1,l2⟩:=fC mo
   exact⟨.gU r' vs f (by rw[h1,l1]) (fun j hj=>h3 j (by rw[<-l1];exact hj)) (fun j b hj=>by
    obtain⟨a0,j8,hf⟩:=l2 j b hj
    exact(ih _ _ _ (h4 j a0 j8) hf).1),fun hc=>by simp[AV.cell]at hc⟩
  |fn f cq=>
   rw[fz]at h
   split at h
   ·rename_i cN
    simp only[Option.map_eq_some_iff]at h
    obtain⟨r',mo,rfl⟩:=h
    obtain⟨vs,q,rfl,h0,h1,h3,h4⟩:=Bj hr
    obtain⟨l1,l2⟩:=fC mo
    exact both (.fn f r' vs q h0 (by rw[h1,l1]) (fun j hj=>h3 j (by rw[<-l1];exact hj)) (fun j b hj=>by
     obtain⟨a0,j8,hf⟩:=l2 j b hj
     exact((ih _ _ _ (h4 j a0 j8) hf).2 (List.all_eq_true.1 cN a0 (List.mem_of_getElem? j8))).1)) rfl
   ·simp at h
  |int k m=>rw[fz]at h<;>(try simp at h)<;>(try subst h)<;>(try(rw[db hr];exact⟨.ew _ _ (.int _ _),fun _=>⟨.int _ _,rfl⟩⟩))<;>(try(intros;simp_all))
  |bool b=>rw[fz]at h<;>(try simp at h)<;>(try subst h)<;>(try(rw[eH hr];exact⟨.ew _ _ (.bool _),fun _=>⟨.bool _,rfl⟩⟩))<;>(try(intros;simp_all))
  |str b=>rw[fz]at h<;>(try simp at h)<;>(try subst h)<;>(try(rw[eU hr];exact⟨.ew _ _ (.str _),fun _=>⟨.str _,rfl⟩⟩))<;>(try(intros;simp_all))
  |bE=>rw[fz]at h<;>(try simp at h)<;>(try subst h)<;>(try(rw[js hr];exact⟨.ew _ _ .bE,fun _=>⟨.bE,rfl⟩⟩))<;>(try(intros;simp_all))
  |iH=>rw[fz]at h<;>(try simp at h)<;>(try subst h)<;>(try(rw[tn hr];exact⟨.ew _ _ .iH,fun _=>⟨.iH,rfl⟩⟩))<;>(try(intros;simp_all))
  |iR=>rw[fz]at h<;>(try simp at h)<;>(try subst h)<;>(try(rw[zf hr];exact⟨.ew _ _ .iR,fun _=>⟨.iR,rfl⟩⟩))<;>(try(intros;simp_all))
  |tU f cq=>rw[fz]at h<;>(try simp at h)<;>(try(intros;simp_all))
  |fZ=>rw[fz]at h<;>(try simp at h)<;>(try subst h)<;>(try(cases hr with|ew _ _ hr=>exact both (hr.frame (fun _ _=>rfl) hD) rfl))<;>(try(intros;simp_all))
  |sl rows=>rw[fz]at h<;>(try simp at h)<;>(try subst h)<;>(try(cases hr with|ew _ _ hr=>exact both (hr.frame (fun _ _=>rfl) hD) rfl))<;>(try(intros;simp_all))
  |cH cs=>rw[fz]at h<;>(try simp at h)<;>(try subst h)<;>(try(cases hr with|ew _ _ hr=>exact both (hr.frame (fun _ _=>rfl) hD) rfl))<;>(try(intros;simp_all))
theorem gY:∀{n:Nat} {l r:List AV},du g n l=some r->r.length=l.length/\∀(j:Nat) (b:AV),r[j]? =some b->∃a,l[j]? =some a/\fh g n a=some b
 |n,[],r,h=>by
  rw[du]at h;simp at h;subst h;simp
 |n,a::l,r,h=>by
  rw[du]at h
  split at h
  ·rename_i b hb
   simp only[Option.map_eq_some_iff]at h
   obtain⟨r',hr,rfl⟩:=h
   obtain⟨h1,h2⟩:=gY hr
   refine⟨by simp[h1],fun j c hj=>?_⟩
   cases j with
   |zero=>simp at hj;subst hj;exact⟨a,rfl,hb⟩
   |succ j=>simp at hj ⊢;exact h2 j c hj
  ·simp at h
theorem qS:∀{n:Nat} {l r:List (List AV)},gh g n l=some r->r.length=l.length/\∀(j:Nat) (b:List AV),r[j]? =some b->∃a,l[j]? =some a/\du g n a=some b
 |n,[],r,h=>by
  rw[gh]at h;simp at h;subst h;simp
 |n,a::l,r,h=>by
  rw[gh]at h
  split at h
  ·rename_i b hb
   simp only[Option.map_eq_some_iff]at h
   obtain⟨r',hr,rfl⟩:=h
   obtain⟨h1,h2⟩:=qS hr
   refine⟨by simp[h1],fun j c hj=>?_⟩
   cases j with
   |zero=>simp at hj;subst hj;exact⟨a,rfl,hb⟩
   |succ j=>simp at hj ⊢;exact h2 j c hj
  ·simp at h
theorem Dm (CX:∀id row,g id=some row->row.w=true->∃B,ι id=some B/\gN P w D ι B row/\D2 B.b):∀(n:Nat) (a:AV) (u:Value) (r:AV),cv P w D ι a u->fh g n a=some r->cv P w D2 ι2 r u/\(a.cell=true->jk P w D2 r u/\r.cell=true):=by
 intro n
 induction n with
 |zero=>intro a u r _ h;rw[fh]at h;simp at h
 |succ n ih=>
  intro a u r hr h
  have both:∀{r:AV},jk P w D2 r u->r.cell=true->cv P w D2 ι2 r u/\(a.cell=true->jk P w D2 r u/\r.cell=true):=fun h1 h2=>⟨.ew _ _ h1,fun _=>⟨h1,h2⟩⟩
  cases a with
  |map id m=>rw[fh]at h<;>simp_all
  |qf id=>rw[fh]at h<;>simp_all
  |own id off len=>
   rw[fh]at h
   split at h
   ·rename_i row hg
    split at h
    ·rename_i hw
     split at h
     ·rename_i hle
      simp only[Option.map_eq_some_iff]at h
      obtain⟨rows,pk,rfl⟩:=h
      obtain⟨B,hB,R,KI⟩:=CX id row hg hw
      obtain⟨o,cap,B',rfl,dk,h1,h2,h3,h4,hk⟩:=iI hr
      rw[hB]at dk;injection dk with dk;subst dk
      replace R:=R.row hk
      obtain⟨l1,l2⟩:=qS pk
      have hlen:rows.length=len:=by rw[l1];simp;omega
      by_cases h0:rows=[]
      ·subst h0
       simp at hlen;subst hlen
       exact both (.zE _ _ h4) rfl
      ·have hlp:0<len:=by rw[<-hlen];exact List.length_pos_iff.2 h0
       have ho:o=off*B.sz:=by rcases h2 with h2|h2<;>omega
       have src:∀i cs,rows[i]? =some cs->∃c0,row.rows[off+i]? =some c0/\du g n c0=some cs:=fun i cs hi=>by
        obtain⟨c0,iU,hf⟩:=l2 i cs hi
        rw[List.getElem?_take]at iU
        split at iU
        ·rw[List.getElem?_drop]at iU;exact⟨c0,iU,hf⟩
        ·simp at iU
       have cell:∀i j,i<len->j<row.sz->∃c0 a0 v,row.rows[off+i]? =some c0/\c0[j]? =some a0/\w.cell? ⟨B.b,o+(i*row.sz+j),none⟩=some v/\cv P w D ι a0 v:=fun i j hi hj=>by
        have oW:off+i<row.rows.length:=ab
        have e1:=List.getElem?_eq_getElem oW
        have JG:j<row.rows[off+i].length:=by rw[R.len _ (List.getElem_mem oW)];exact hj
        obtain⟨v,hv,kM⟩:=R.at_ _ _ _ _ e1 (List.getElem?_eq_getElem JG)
        refine⟨_,_,v,e1,List.getElem?_eq_getElem JG,?_,kM⟩
        rw[ho,R.sz,<-hv]
        congr 2
        rw[Nat.add_mul];omega
       refine both (.sl rows B.b o len cap row.sz (fun i j=>(w.cell? ⟨B.b,o+(i*row.sz+j),none⟩).getD undef) hlen h1 h4 KI (fun cs dh=>?_) (fun cs dh b hb=>?_) (fun i j hi hj=>?_) (fun i j cs b hi hj=>?_)) rfl
       ·obtain⟨i,hi,rfl⟩:=List.getElem_of_mem dh
        obtain⟨c0,iU,hf⟩:=src i _ (List.getElem?_eq_getElem hi)
        rw[(gY hf).1];exact R.len c0 (List.mem_of_getElem? iU)
       ·obtain⟨i,hi,rfl⟩:=List.getElem_of_mem dh
        obtain⟨c0,iU,hf⟩:=src i _ (List.getElem?_eq_getElem hi)
        obtain⟨j,hj,rfl⟩:=List.getElem_of_mem hb
        obtain⟨a0,j8,FL⟩:=(gY hf).2 j _ (List.getElem?_eq_getElem hj)
        obtain⟨v,_,kM⟩:=R.at_ _ _ _ _ iU j8
        exact((ih _ _ _ kM FL).2 (R.flat c0 (List.mem_of_getElem? iU) a0 (List.mem_of_getElem? j8))).2
       ·obtain⟨c0,a0,v,_,_,hv,_⟩:=cell i j hi hj
        simp only[hv,Option.getD_some]
       ·obtain⟨c0,iU,hf⟩:=src i cs hi
        obtain⟨a0,j8,FL⟩:=(gY hf).2 j b hj
        have oe:i<len:=by rw[<-hlen];exact(List.getElem?_eq_some_iff.1 hi).1
        have gn:j<row.sz:=by rw[<-R.len c0 (List.mem_of_getElem? iU)];exact(List.getElem?_eq_some_iff.1 j8).1
        obtain⟨c1,a1,v,e1,e2,hv,kM⟩:=cell i j oe gn
        rw[iU]at e1;injection e1 with e1;subst e1
        rw[j8]at e2;injection e2 with e2;subst e2
        simp only[hv,Option.getD_some]
        exact((ih _ _ _ kM FL).2 (R.flat c0 (List.mem_of_getElem? iU) a0 (List.mem_of_getElem? j8))).1
     ·simp at h
    ·simp at h
   ·simp at h
  |ptr id i off=>
   rw[fh]at h
   split at h
   ·rename_i row hg
    split at h
    ·rename_i hw
     split at h
     ·rename_i c0 iU
      simp only[Option.map_eq_some_iff]at h
      obtain⟨cs,dh,rfl⟩:=h
      obtain⟨B,hB,R,KI⟩:=CX id row hg hw
      obtain⟨B',rfl,dk,hk⟩:=iJ hr
      rw[hB]at dk;injection dk with dk;subst dk
      replace R:=R.row hk
      obtain⟨l1,l2⟩:=gY dh
      have at_:∀j b,cs[j]? =some b->∃a0 v,w.cell? ⟨B.b,i*B.sz+off+j,none⟩=some v/\cv P w D ι a0 v/\a0.cell=true/\fh g n a0=some b:=fun j b hj=>by
       obtain⟨a0,j8,hf⟩:=l2 j b hj
       rw[List.getElem?_drop]at j8
       obtain⟨v,hv,kM⟩:=R.at_ _ _ _ _ iU j8
       refine⟨a0,v,?_,kM,R.flat c0 (List.mem_of_getElem? iU) a0 (List.mem_of_getElem? j8),hf⟩
       rw[R.sz,Nat.add_assoc];exact hv
      refine both (.cH cs B.b _ (fun j=>(w.cell? ⟨B.b,i*B.sz+off+j,none⟩).getD undef) KI (fun b hb=>?_) (fun j hj=>?_) (fun j b hj=>?_)) rfl
      ·obtain⟨j,hj,rfl⟩:=List.getElem_of_mem hb
       obtain⟨a0,v,_,kM,hc,hf⟩:=at_ j _ (List.getElem?_eq_getElem hj)
       exact((ih _ _ _ kM hf).2 hc).2
      ·obtain⟨a0,v,hv,_⟩:=at_ j _ (List.getElem?_eq_getElem hj)
       simp only[hv,Option.getD_some]
      ·obtain⟨a0,v,hv,kM,hc,hf⟩:=at_ j b hj
       simp only[hv,Option.getD_some]
       exact((ih _ _ _ kM hf).2 hc).1
     ·simp at h
    ·simp at h
   ·simp at h
  |agg cs=>
   rw[fh]at h
   simp only[Option.map_eq_some_iff]at h
   obtain⟨r',mo,rfl⟩:=h
   obtain⟨vs,f,rfl,h1,h2,h3,h4⟩:=gT hr
   obtain⟨l1,l2⟩:=gY mo
   have hI:jk P w D2 (.agg r') (.agg vs):=.agg r' vs f (by rw[h1,l1]) (fun b hb=>by
    obtain⟨j,hj,rfl⟩:=List.getElem_of_mem hb
    obtain⟨a0,j8,hf⟩:=l2 j _ (List.getElem?_eq_getElem hj)
    exact((ih _ _ _ (h4 j a0 j8) hf).2 (h2 a0 (List.mem_of_getElem? j8))).2) (fun j hj=>h3 j (by rw[<-l1];exact hj)) (fun j b hj=>by
    obtain⟨a0,j8,hf⟩:=l2 j b hj
    exact((ih _ _ _ (h4 j a0 j8) hf).2 (h2 a0 (List.mem_of_getElem? j8))).1)
   exact⟨.ew _ _ hI,fun hc=>by simp[AV.cell]at hc⟩
  |gU cs=>
   rw[fh]at h
   simp only[Option.map_eq_some_iff]at h
   obtain⟨r',mo,rfl⟩:=h
   obtain⟨vs,f,rfl,h1,h3,h4⟩:=r9 hr
   obtain⟨l1,l2⟩:=gY mo
   exact⟨.gU r' vs f (by rw[h1,l1]) (fun j hj=>h3 j (by rw[<-l1];exact hj)) (fun j b hj=>by
    obtain⟨a0,j8,hf⟩:=l2 j b hj
    exact(ih _ _ _ (h4 j a0 j8) hf).1),fun hc=>by simp[AV.cell]at hc⟩
  |fn f cq=>rw[fh]at h<;>(try simp at h)<;>(try(intros;simp_all))
  |int k m=>rw[fh]at h<;>(try simp at h)<;>(try subst h)<;>(try(rw[db hr];exact⟨.ew _ _ (.int _ _),fun _=>⟨.int _ _,rfl⟩⟩))<;>(try(intros;simp_all))
  |bool b=>rw[fh]at h<;>(try simp at h)<;>(try subst h)<;>(try(rw[eH hr];exact⟨.ew _ _ (.bool _),fun _=>⟨.bool _,rfl⟩⟩))<;>(try(intros;simp_all))
  |str b=>rw[fh]at h<;>(try simp at h)<;>(try subst h)<;>(try(rw[eU hr];exact⟨.ew _ _ (.str _),fun _=>⟨.str _,rfl⟩⟩))<;>(try(intros;simp_all))
  |bE=>rw[fh]at h<;>(try simp at h)<;>(try subst h)<;>(try(rw[js hr];exact⟨.ew _ _ .bE,fun _=>⟨.bE,rfl⟩⟩))<;>(try(intros;simp_all))
  |iH=>rw[fh]at h<;>(try simp at h)<;>(try subst h)<;>(try(rw[tn hr];exact⟨.ew _ _ .iH,fun _=>⟨.iH,rfl⟩⟩))<;>(try(intros;simp_all))
  |iR=>rw[fh]at h<;>(try simp at h)<;>(try subst h)<;>(try(rw[zf hr];exact⟨.ew _ _ .iR,fun _=>⟨.iR,rfl⟩⟩))<;>(try(intros;simp_all))
  |tU f cq=>rw[fh]at h<;>(try simp at h)<;>(try(intros;simp_all))
  |fZ=>rw[fh]at h<;>(try simp at h)<;>(try subst h)<;>(try(cases hr with|ew _ _ hr=>cases hr;exact both .fZ rfl))<;>(try(intros;simp_all))
  |sl rows=>rw[fh]at h<;>(try simp at h)<;>(try(intros;simp_all))
  |cH cs=>rw[fh]at h<;>(try simp at h)<;>(try(intros;simp_all))
end
end Go.Proofs.YtihgaadadaekmaaGreatDoor.V

namespace Go.Proofs.YtihgaadadaekmaaGreatDoor.V
open Go.RowKit
variable {P:Program} {w w':World} {D D':Nat->Prop} {ι ι':Names}
section
variable {g:Rows} {hs:Nat} {env:Env} {a:Act} {o:Oper} {id:Id} {v:AV}
theorem fG.Ez (S:fG P hs D ι g w) {i:Id} {r r':Row} {B:qG} {ob:Obj} (hid:g i=some r) (hw:r.w=true) (hB:ι i=some B)
  (hR:(∀a v,cv P w D ι a v->cv P {w with heap:=w.heap.setIfInBounds B.b ob} D ι a v)->(w.heap.setIfInBounds B.b ob)[B.b]? =some ob->gN P {w with heap:=w.heap.setIfInBounds B.b ob} D ι B r'):
  fG P hs D ι (bI g i r') {w with heap:=w.heap.setIfInBounds B.b ob}/\Step hs D ι w D ι {w with heap:=w.heap.setIfInBounds B.b ob}:=by
 obtain⟨B0,yw,R,jH,lD⟩:=S.row i r hid
 rw[hB]at yw;injection yw with yw;subst yw
 have other:∀b,b≠B.b->(w.heap.setIfInBounds B.b ob)[b]? =w.heap[b]? :=fun b hb=>by simp[Ne.symm hb]
 have hd:∀b,D b->(w.heap.setIfInBounds B.b ob)[b]? =w.heap[b]? :=fun b hb=>other b (by rintro rfl;exact lD hw hb)
 have hr:∀a v,cv P w D ι a v->cv P {w with heap:=w.heap.setIfInBounds B.b ob} D ι a v:=fun a v h=>h.frame hd (fun _ h=>h) (fun _ _ h=>h)
 refine⟨⟨by simpa using S.lo,fun b hb=>by simpa using S.dead b hb,fun j q h=>?_,fun j j' q q' C C' h h' NX hC Ap he=>?_⟩,⟨⟨rfl,rfl,rfl,by simp,fun k hk=>other k (by have:=jH hw;omega)⟩,hd,fun _ h=>h,fun _ _ h=>h,fun _ h=>.inl h⟩⟩
 ·unfold bI at h
  split at h
  ·rename_i e
   subst e
   injection h with h;subst h
   exact⟨B,hB,hR hr (by simp[R.lt]),fun _=>jH hw,fun _=>lD hw⟩
  ·rename_i e
   obtain⟨C,hC,RC,k1,k2⟩:=S.row j q h
   refine⟨C,hC,RC.frame (other C.b (fun Jy=>e ?_)) hr,k1,k2⟩
   exact(S.inj i j r q B C hid h hw hB hC Jy.symm).symm
 ·unfold bI at h h'
  have get:∀j p,(if j=i then some r' else g j)=some p->∃p0,g j=some p0/\(p.w=true->p0.w=true):=fun j p hp=>by
   split at hp
   ·rename_i e;subst e;injection hp with hp;subst hp;exact⟨r,hid,fun _=>hw⟩
   ·exact⟨p,hp,fun h=>h⟩
  obtain⟨p,hp,Mz⟩:=get _ _ h
  obtain⟨p',K5,_⟩:=get _ _ h'
  exact S.inj j j' p p' C C' hp K5 (Mz NX) hC Ap he
theorem B3 {s:TS} {x y:AV} {u v:Value} (he:fW s x y=some true) (hx:cv P w D ι x u) (hy:cv P w D ι y v):u=v/\∀n,Instr.sameBits n u v=true:=by
 unfold fW at he
 split at he
 ·split at he
  ·rename_i hk
   subst hk
   simp at he;subst he
   rw[db hx,db hy]
   exact⟨rfl,fun n=>by cases n<;>simp[Instr.sameBits]⟩
  ·cases he
 ·simp at he;subst he
  rw[eH hx,eH hy]
  exact⟨rfl,fun n=>by cases n<;>simp[Instr.sameBits]⟩
 ·simp at he;subst he
  rw[eU hx,eU hy]
  exact⟨rfl,fun n=>by cases n<;>simp[Instr.sameBits,E8]⟩
 ·cases he
theorem ye {n:Nat}:∀{ts:List TS} {xs ys:List AV} {vs us:List Value},eZ ts xs ys=some true->vs.length=xs.length->us.length=ys.length->(∀(j:Nat) (a:AV),xs[j]? =some a->∃u,vs[j]? =some u/\cv P w D ι a u)->(∀(j:Nat) (a:AV),ys[j]? =some a->∃u,us[j]? =some u/\cv P w D ι a u)->
  us.length=vs.length/\(us.zip vs).all (fun p=>Instr.sameBits n p.1 p.2)=true
 |[],[],[],vs,us,_,h1,h2,_,_=>by
  cases vs<;>cases us<;>simp_all
 |[],x::xs,ys,vs,us,h,_,_,_,_=>by simp[eZ]at h
 |[],[],y::ys,vs,us,h,_,_,_,_=>by simp[eZ]at h
 |t::ts,[],ys,vs,us,h,_,_,_,_=>by simp[eZ]at h
 |t::ts,x::xs,[],vs,us,h,_,_,_,_=>by simp[eZ]at h
 |t::ts,x::xs,y::ys,[],us,h,h1,_,_,_=>by simp at h1
 |t::ts,x::xs,y::ys,v::vs,[],h,_,h2,_,_=>by simp at h2
 |t::ts,x::xs,y::ys,v::vs,u::us,h,h1,h2,hx,hy=>by
  unfold eZ at h
  split at h
  ·rename_i a b ha hb
   simp only[Option.some.injEq,Bool.and_eq_true]at h
   obtain⟨rfl,rfl⟩:=h
   obtain⟨v',mj,rv⟩:=hx 0 x rfl
   obtain⟨u',Ck,ru⟩:=hy 0 y rfl
   simp at mj Ck;subst mj;subst Ck
   obtain⟨e1,e2⟩:=B3 ha rv ru
   obtain⟨q1,q2⟩:=ye (n:=n) hb (by simpa using h1) (by simpa using h2) (fun j a hj=>by simpa using hx (j+1) a (by simpa using hj)) (fun j a hj=>by simpa using hy (j+1) a (by simpa using hj))
   refine⟨by simp[q1],?_⟩
   simp only[List.zip_cons_cons,List.all_cons,q2,Bool.and_true]
   rw[<-e1]
   have:=e2 n
   rw[<-e1]at this
   exact this
  ·cases h
theorem y5 {m:MK} {key:List AV}:∀{rows:List (List AV)} {i j:Nat},gG m key rows i=some (some j)->∃cs,i<=j/\rows[j-i]? =some cs/\eZ m.ts key (cs.take m.ks)=some true
 |[],i,j,h=>by simp[gG]at h
 |cs::rows,i,j,h=>by
  unfold gG at h
  split at h
  ·rename_i hq
   simp at h;subst h
   exact⟨cs,Nat.le_refl _,by simp,hq⟩
  ·obtain⟨c,h1,h2,h3⟩:=y5 h
   exact⟨c,ab,by rw[show j-i=(j-(i+1))+1 by omega];simpa using h2,h3⟩
  ·cases h
theorem ta {m:MK} {k:AV} {rows:List (List AV)} {fi:Option Nat} (h:gw m k rows=some fi):k.isAgg=m.ka/\k.cells.length=m.ks/\(k.cells.all AV.cell=true)/\gG m k.cells rows 0=some fi:=by
 unfold gw at h
 split at h
 ·rename_i hc;exact⟨hc.1,hc.2.1,hc.2.2,h⟩
 ·cases h
theorem GD {m:MK} {k y:AV} (h1:k.isAgg=m.ka) (h2:k.cells.length=m.ks):part m.ka m.ks (k.cells++[y])=some k/\(k.cells++[y])[m.ks]? =some y:=by
 refine⟨?_,by rw[List.getElem?_append_right ab,h2,Nat.sub_self];rfl⟩
 cases hk:m.ka with
 |false=>
  rw[hk]at h1
  rw[sD h1];rfl
 |true=>
  rw[hk]at h1
  cases k<;>simp[AV.isAgg]at h1
  rename_i cs
  simp only[AV.cells]at h2 ⊢
  simp only[part,if_true]
  rw[if_pos (by simp;omega),<-h2,List.take_left']
  rfl
theorem stays {k:TypeId} {m:MK} (hK:BO P k m) {key kv:AV} {u za:Value} {cs:List AV} (h1:key.isAgg=m.ka) (hr:cv P w D ι key u) (hp:part m.ka m.ks cs=some kv) (ho:cv P w D ι kv za) (he:eZ m.ts key.cells (cs.take m.ks)=some true):(Instr.keyThatStays za u).run P w=.ok u w:=by
 have hs:Instr.sameBits 10000 za u=true:=by
  rcases hK with⟨s,rfl,hs⟩|⟨fs,ts,rfl,ph,uq,dS,cN⟩
  ·rw[sD h1]at he
   cases cs with
   |nil=>simp[part]at hp
   |cons c l=>
    simp[part]at hp;subst hp
    simp only[MK.ks,List.length_cons,List.length_nil,Nat.zero_add,List.take_succ_cons,List.take_zero,eZ]at he
    cases hq:fW s key c with
    |none=>rw[hq]at he;simp at he
    |some b=>
     rw[hq]at he;simp at he;subst he
     obtain⟨e1,e2⟩:=B3 hq hr ho
     rw[<-e1]
     have:=e2 10000
     rwa [<-e1]at this
  ·cases key<;>simp[AV.isAgg]at h1
   rename_i ks
   simp only[part,if_true]at hp
   split at hp
   ·simp only[Option.some.injEq]at hp;subst hp
    obtain⟨vs,rfl,n1,r1⟩:=pE hr
    obtain⟨us,rfl,n2,r2⟩:=pE ho
    obtain⟨q1,q2⟩:=ye (n:=9999) (vs:=vs.toList) (us:=us.toList) he (by simpa[AV.cells]using n1) (by simpa using n2) (fun j a hj=>by simpa using r1 j a hj) (fun j a hj=>by simpa using r2 j a hj)
    simp only[Instr.sameBits,Bool.and_eq_true,beq_iff_eq]
    exact⟨by simpa using q1,q2⟩
   ·cases hp
 simp[Instr.keyThatStays,hs]
theorem GO {es:Array MapEntry} {clock:Nat} (h:J9 es clock) (k v:Value):J9 (es.push ⟨k,v,clock⟩) (clock+1):=by
 refine⟨fun x hx=>?_,?_⟩
 ·simp only[Array.toList_push,List.mem_append,List.mem_singleton]at hx
  rcases hx with hx|rfl
  ·have:=h.1 x hx;omega
  ·exact Nat.lt_succ_self _
 ·simp only[Array.toList_push,List.map_append,List.map_cons,List.map_nil]
  refine List.nodup_append.2 ⟨h.2,by simp,fun a ha b hb=>?_⟩
  obtain⟨x,hx,rfl⟩:=List.mem_map.1 ha
  simp at hb;subst hb
  have:=h.1 x hx;omega
theorem By {es:Array MapEntry} {clock:Nat} (h:J9 es clock) (j:Nat) (k v:Value):J9 (es.modify j fun e=>{e with key:=k,val:=v}) clock:=by
 have e:(es.modify j fun e=>{e with key:=k,val:=v}).toList.map (·.born)=es.toList.map (·.born):=by
  refine List.ext_getElem? fun i=>?_
  simp only[List.getElem?_map,Array.getElem?_toList,Array.getElem?_modify]
  split
  ·cases es[i]? <;>rfl
  ·rfl
 refine⟨fun x hx=>?_,by rw[e];exact h.2⟩
 have hb:x.born∈(es.modify j fun e=>{e with key:=k,val:=v}).toList.map (·.born):=List.mem_map_of_mem hx
 rw[e]at hb
 obtain⟨y,hy,hyb⟩:=List.mem_map.1 hb
 rw[<-hyb];exact h.1 y hy
theorem El {es:Array MapEntry} {clock:Nat} (h:J9 es clock) {j:Nat} (hj:j<es.size):J9 (es.eraseIdxIfInBounds j) clock:=by
 have e:(es.eraseIdxIfInBounds j).toList=es.toList.eraseIdx j:=by
  unfold Array.eraseIdxIfInBounds
  rw[dif_pos hj,Array.toList_eraseIdx]
 refine⟨fun x hx=>h.1 x ((List.eraseIdx_sublist _ _).subset (by rwa [e]at hx)),?_⟩
 rw[e]
 exact((List.eraseIdx_sublist es.toList j).map (·.born)).nodup h.2
theorem yk {k y:AV} (h1:k.cells.all AV.cell=true) (h2:y.cell=true):∀a∈k.cells++[y],a.cell=true:=fun a ha=>by
 rcases List.mem_append.1 ha with ha|ha
 ·exact List.all_eq_true.1 h1 a ha
 ·rw[List.mem_singleton.1 ha];exact h2
theorem Ku {t:TypeId} {x k y:Operand} {m:MK} {z:K} {x' k' y':O} {g':Rows} (S:fG P hs D ι g w) (E:bt P w D ι env a) (ho:o.op=.mapUpdate t x k y∨o.op=.insert t x k y) (hc:qc P t=some (m,z)) (hx:cO P x=some x') (hk:cO P k=some k') (hy:cO P y=some y')
  (hv:bH (.set m) [cu env x',cu env k',cu env y'] g=some g'):zG P hs a o w D ι id .undef g':=by
 obtain⟨kt,e,i,zv,ht,hi,sW,Pf,hK⟩:=o9 hc
 simp only[bH,Option.bind_eq_some_iff]at hv
 obtain⟨p,hp,fi,JB,hv⟩:=hv
 split at hv
 ·rename_i hcond
  obtain⟨hw,hyc,_⟩:=hcond
  simp only[Option.some.injEq]at hv;subst hv
  obtain⟨B,hu,hg,hB,rY,es,clock,hb,eT,hlen,hM⟩:=wN S (cC E hx) hp
  have rk:=cC E hk
  have ry:=cC E hy
  obtain⟨Hn,res,hf,hF⟩:=sI (B:=B) hK rk eT hM JB
  obtain⟨k1,k2,k3,k4⟩:=ta JB
  obtain⟨B',dk,R,_⟩:=S.row p.1 p.2 hg
  rw[hB]at dk;injection dk with dk;subst dk
  obtain⟨pk1,pk2⟩:=GD (y:=cu env y') k1 k2
  have dW:(getObj B.b).run P w=.ok (.map es clock) w:=MapKept.run_getObj_map hb
  rcases hF with⟨rfl,rfl⟩|⟨j,en,rfl,he,rfl⟩
  ·have mh:=S.Ez (ob:=.map (es.push ⟨a.eval k,a.eval y,clock⟩) (clock+1)) (r':={p.2 with rows:=dR p.2.rows ((cu env k').cells++[cu env y']) none}) hg hw hB fun hr jO=>⟨R.sz,fun cs dh=>?_,fun pj=>(by rw[rY]at pj;cases pj),fun m' yG=>?_,fun c hc=>(by rw[rY]at hc;cases hc)⟩
   ·refine⟨undef,_,ι,.inr ⟨?_,rfl⟩,mh.2,mh.1,cv.undef,fun _ _=>rfl⟩
    rcases ho with ho|ho<;>
    ·simp only[execOp,ho,Instr.mapUpdate,hu,Sem.run_bind,run_underlying ht,Result.andThen_ok,dW,Hn,hf,MapKept.run_setObj_map _ hb,Sem.run_pure]
   ·rcases List.mem_append.1 dh with h|h
    ·exact R.flat cs h
    ·rw[List.mem_singleton.1 h];exact yk k3 hyc
   ·rw[rY]at yG;simp only[Option.some.injEq,BK.map.injEq]at yG;subst yG
    refine⟨(R.map m rY).1,_,_,jO,by simp[dR,eT],⟨fun cs dh=>?_,GO hlen.2 _ _⟩,fun q cs hq=>?_⟩
    ·rcases List.mem_append.1 dh with h|h
     ·exact hlen.1 cs h
     ·rw[List.mem_singleton.1 h];simp[k2]
    ·rcases Nat.lt_or_ge q p.2.rows.length with dD|kV
     ·simp only[dR]at hq
      rw[List.getElem?_append_left dD]at hq
      obtain⟨en,kv,vv,q1,q2,q3,q4,q5⟩:=hM q cs hq
      exact⟨en,kv,vv,by rw[Array.getElem?_push_lt ab];rw[Array.getElem?_eq_getElem ab]at q1;simpa using q1,q2,q3,hr _ _ q4,hr _ _ q5⟩
     ·simp only[dR]at hq
      rw[List.getElem?_append_right kV]at hq
      have hq0:q=p.2.rows.length:=by
       have:=(List.getElem?_eq_some_iff.1 hq).1
       simp at this;omega
      subst hq0
      simp at hq;subst hq
      exact⟨⟨a.eval k,a.eval y,clock⟩,_,_,by rw[<-eT];simp,pk1,pk2,hr _ _ rk,hr _ _ ry⟩
  ·simp only[Nat.zero_add]at k4 JB hf ⊢
   obtain⟨Mj,_,Au,heq⟩:=y5 k4
   simp only[Nat.sub_zero]at Au
   obtain⟨PO,kv,vv,q1,q2,_,q4,_⟩:=hM j Mj Au
   have Ho:PO=en:=by
    have h1:es.toList[j]? =some PO:=by simpa using q1
    rw[he]at h1;injection h1 with h1;exact h1.symm
   subst Ho
   have dS:=stays (w:=w) hK k1 rk q2 q4 heq
   have mh:=S.Ez (ob:=.map (es.modify j fun e=>{e with key:=a.eval k,val:=a.eval y}) clock) (r':={p.2 with rows:=dR p.2.rows ((cu env k').cells++[cu env y']) (some j)}) hg hw hB fun hr jO=>⟨R.sz,fun cs dh=>?_,fun pj=>(by rw[rY]at pj;cases pj),fun m' yG=>?_,fun c hc=>(by rw[rY]at hc;cases hc)⟩
   ·refine⟨undef,_,ι,.inr ⟨?_,rfl⟩,mh.2,mh.1,cv.undef,fun _ _=>rfl⟩
    rcases ho with ho|ho<;>
    ·simp only[execOp,ho,Instr.mapUpdate,hu,Sem.run_bind,run_underlying ht,Result.andThen_ok,dW,Hn,hf,q1,Option.map_some,Option.getD_some,dS,MapKept.run_setObj_map _ hb,Sem.run_pure]
   ·rcases List.mem_or_eq_of_mem_set dh with h|h
    ·exact R.flat cs h
    ·rw[h];exact yk k3 hyc
   ·rw[rY]at yG;simp only[Option.some.injEq,BK.map.injEq]at yG;subst yG
    have gn:=(List.getElem?_eq_some_iff.1 Au).1
    refine⟨(R.map m rY).1,_,_,jO,by simp[dR,eT],⟨fun cs dh=>?_,By hlen.2 _ _ _⟩,fun q cs hq=>?_⟩
    ·rcases List.mem_or_eq_of_mem_set dh with h|h
     ·exact hlen.1 cs h
     ·rw[h];simp[k2]
    ·simp only[dR,List.getElem?_set]at hq
     split at hq
     ·rename_i Mt
      subst Mt
      (try rw[if_pos gn]at hq)
      injection hq with hq;subst hq
      exact⟨{PO with key:=a.eval k,val:=a.eval y},_,_,by rw[Array.getElem?_modify];simp[q1],pk1,pk2,hr _ _ rk,hr _ _ ry⟩
     ·rename_i Mt
      obtain⟨en,kv,vv,q1,q2,q3,q4,q5⟩:=hM q cs hq
      exact⟨en,kv,vv,by rw[Array.getElem?_modify];simp[Mt,q1],q2,q3,hr _ _ q4,hr _ _ q5⟩
 ·cases hv
theorem Kt {t t':TypeId} {x k:Operand} {m:MK} {z:K} {x' k':O} {g':Rows} (S:fG P hs D ι g w) (E:bt P w D ι env a) (ho:o.op=.call {callee:=.builtin .delete,args:= #[x,k],argTypes:= #[t,t']}) (hc:qc P t=some (m,z)) (hx:cO P x=some x') (hk:cO P k=some k')
  (hv:bH (.del m) [cu env x',cu env k'] g=some g'):zG P hs a o w D ι id .undef g':=by
 obtain⟨kt,e,i,zv,ht,hi,sW,Pf,hK⟩:=o9 hc
 simp only[bH,Option.bind_eq_some_iff]at hv
 obtain⟨p,hp,fi,JB,hv⟩:=hv
 split at hv
 ·rename_i hw
  simp only[Option.some.injEq]at hv;subst hv
  obtain⟨B,hu,hg,hB,rY,es,clock,hb,eT,hlen,hM⟩:=wN S (cC E hx) hp
  have rk:=cC E hk
  obtain⟨Hn,res,hf,hF⟩:=sI (B:=B) hK rk eT hM JB
  obtain⟨k1,k2,k3,k4⟩:=ta JB
  obtain⟨B',dk,R,_⟩:=S.row p.1 p.2 hg
  rw[hB]at dk;injection dk with dk;subst dk
  have dW:(getObj B.b).run P w=.ok (.map es clock) w:=MapKept.run_getObj_map hb
  have go:∀ob,(Builtin.delete_ #[t,t'] o.type #[a.eval x,a.eval k]).run P w=.ok (.tuple #[]) {w with heap:=w.heap.setIfInBounds B.b ob}->(execOp a.eval o).run P w=.ok (.value undef) {w with heap:=w.heap.setIfInBounds B.b ob}:=fun ob h=>by
   simp only[execOp,ho,resolve,Sem.run_bind,Sem.run_pure,Result.andThen_ok,invoke,builtin,Array.map]
   simp[h,undef]
  rcases hF with⟨rfl,rfl⟩|⟨j,en,rfl,he,rfl⟩
  ·have mh:=S.Ez (ob:=.map es clock) (r':={p.2 with rows:=ea p.2.rows none}) hg hw hB fun hr jO=>⟨R.sz,R.flat,fun pj=>(by rw[rY]at pj;cases pj),fun m' yG=>?_,fun c hc=>(by rw[rY]at hc;cases hc)⟩
   ·refine⟨undef,_,ι,.inl (go _ ?_),mh.2,mh.1,cv.undef,fun _ _=>rfl⟩
    simp[Builtin.delete_,hu,run_underlying ht,dW,Hn,hf,MapKept.run_setObj_map _ hb]
   ·rw[rY]at yG;simp only[Option.some.injEq,BK.map.injEq]at yG;subst yG
    exact⟨(R.map m rY).1,_,_,jO,eT,hlen,fun q cs hq=>by
     obtain⟨en,kv,vv,q1,q2,q3,q4,q5⟩:=hM q cs hq
     exact⟨en,kv,vv,q1,q2,q3,hr _ _ q4,hr _ _ q5⟩⟩
  ·simp only[Nat.zero_add]at hf ⊢
   have gn:j<es.size:=by have:=(List.getElem?_eq_some_iff.1 he).1;simpa using this
   have mh:=S.Ez (ob:=.map (es.eraseIdxIfInBounds j) clock) (r':={p.2 with rows:=ea p.2.rows (some j)}) hg hw hB fun hr jO=>⟨R.sz,fun cs dh=>R.flat cs (List.mem_of_mem_eraseIdx dh),fun pj=>(by rw[rY]at pj;cases pj),fun m' yG=>?_,fun c hc=>(by rw[rY]at hc;cases hc)⟩
   ·refine⟨undef,_,ι,.inl (go _ ?_),mh.2,mh.1,cv.undef,fun _ _=>rfl⟩
    simp[Builtin.delete_,hu,run_underlying ht,dW,Hn,hf,MapKept.run_setObj_map _ hb]
   ·rw[rY]at yG;simp only[Option.some.injEq,BK.map.injEq]at yG;subst yG
    have he2:∀q,(es.eraseIdxIfInBounds j)[q]? =(es.toList.eraseIdx j)[q]? :=fun q=>by
     unfold Array.eraseIdxIfInBounds
     rw[dif_pos gn,<-Array.getElem?_toList,Array.toList_eraseIdx]
    refine⟨(R.map m rY).1,_,_,jO,by simp[ea,Array.eraseIdxIfInBounds,gn,List.length_eraseIdx,<-eT],⟨fun cs dh=>hlen.1 cs (List.mem_of_mem_eraseIdx dh),El hlen.2 gn⟩,fun q cs hq=>?_⟩
    simp only[ea,List.getElem?_eraseIdx]at hq
    split at hq
    ·rename_i dD
     obtain⟨en,kv,vv,q1,q2,q3,q4,q5⟩:=hM q cs hq
     exact⟨en,kv,vv,by rw[he2,List.getElem?_eraseIdx,if_pos dD];simpa using q1,q2,q3,hr _ _ q4,hr _ _ q5⟩
    ·rename_i dD
     obtain⟨en,kv,vv,q1,q2,q3,q4,q5⟩:=hM (q+1) cs hq
     exact⟨en,kv,vv,by rw[he2,List.getElem?_eraseIdx,if_neg dD];simpa using q1,q2,q3,hr _ _ q4,hr _ _ q5⟩
 ·cases hv
end
end Go.Proofs.YtihgaadadaekmaaGreatDoor.V
