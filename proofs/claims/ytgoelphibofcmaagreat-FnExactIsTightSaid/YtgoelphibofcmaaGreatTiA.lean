/- A small language in which the program's functions are read by value: its values, its operations, its code, and how the program's code is brought into it. -/
import Derived.WalkKit
import Derived.WalkSpells
import Derived.WalkLawsBesides
import Derived.Lib.Hide
import Derived.Great.BuildSlice
import Derived.Conc.LoneCalls
import Derived.MapKept
import Derived.WideKeyRuns
set_option linter.unusedVariables false
set_option linter.unusedSimpArgs false
set_option maxRecDepth 100000
set_option maxHeartbeats 16000000
namespace Go.Proofs.YtgoelphibofcmaaGreat.V
open Go.RowKit
structure Id where
  site:Nat
  aW:Nat
  deriving DecidableEq,Repr
inductive TS where
  |tI|tB|tS
  deriving Repr,DecidableEq
structure MK where
  ka:Bool
  ts:List TS
  deriving Repr,DecidableEq
inductive AV where
  |int (k:IntKind) (n:Int)
  |bool (b:Bool)
  |str (s:ByteArray)
  |cu|gx|jn
  |sl (rows:List (List AV))
  |own (id:Id) (off len:Nat)
  |ptr (id:Id) (i off:Nat)
  |bK (cs:List AV)
  |agg (cs:List AV)
  |gN (vs:List AV)
  |fn (f:Nat) (bZ:List AV)
  |map (id:Id) (m:MK)
  |jD
  |tb (f:Nat) (first:List AV)
  |si (id:Id)
  deriving Inhabited
def AV.undef:AV:=.gN []
def AV.cell:AV->Bool
  | .agg _| .gN _=>false
  |_=>true
def AV.cells:AV->List AV
  | .agg cs=>cs
  |v=>[v]
inductive K where
  |int (k:IntKind) (n:Int)
  |bool (b:Bool)
  |str (l:List UInt8)
  |cu|gx|jn|jD
  deriving Repr,DecidableEq
def K.val:K->Value
  | .int k n=>.int k n
  | .bool b=>.bool b
  | .str l=>.string ⟨l.toArray⟩
  | .cu=>.slice none 0 0
  | .gx=>.pointer none
  | .jn=>.nilFunc
  | .jD=>.map none
def K.av:K->AV
  | .int k n=>.int k n
  | .bool b=>.bool b
  | .str l=>.str ⟨l.toArray⟩
  | .cu=>.cu
  | .gx=>.gx
  | .jn=>.jn
  | .jD=>.jD
def Fp:Value->Option K
  | .int k n=>some (.int k n)
  | .bool b=>some (.bool b)
  | .string s=>some (.str s.data.toList)
  | .slice none 0 0=>some .cu
  | .pointer none=>some .gx
  | .nilFunc=>some .jn
  | .map none=>some .jD
  |_=>none
inductive O where
  |t (n:Nat)
  |k (c:K)
  |ka (cs:List K)
  |f (n:Nat)
  deriving Repr,DecidableEq
inductive MQ where
  |new (m:MK)
  |look (m:MK) (ok:Bool) (zero:K)
  |len (m:MK)
  deriving Repr,DecidableEq
inductive MW where
  |set (m:MK)
  |del (m:MK)
  deriving Repr,DecidableEq
inductive fW where
  |cD (x:O)
  |pick (c a b:O)
  |new (zero:List K)
  |box (x:O)
  |build (zero:List K) (parts:List (Nat×Nat×O))
  |kj (sz len:Nat) (parts:List O)
  |load (agg:Bool) (n:Nat) (a:O)
  |store (n:Nat) (a x:O)
  |zC (x:O)
  |bin (op:BinOp) (k:IntKind) (x y:O)
  |sh (left:Bool) (x y:O)
  |Jv (op:BinOp) (x y:O)
  |L4 (neg:Bool) (t:TS) (x y:O)
  |Qj (neg:Bool) (ts:List TS) (x y:O)
  |OL (neg Ka:Bool) (x:O)
  |Qk (neg:Bool) (x:O)
  |not (x:O)
  |neg (x:O)
  |conv (k:IntKind) (x:O)
  |DH (x:O)
  |slice (sz:Nat) (x:O) (lo hi:Option O)
  |zg (x:O) (lo hi:Option O)
  |fI (off:Nat) (x:O)
  |field (agg:Bool) (off n:Nat) (x:O)
  |dw (sz:Nat) (x i:O)
  |J5 (len sz:Nat) (x i:O)
  |J7 (x i:O)
  |dZ (agg:Bool) (len n:Nat) (x i:O)
  |extract (i:Nat) (x:O)
  |len (x:O)
  |Kd (x:O)
  |append (sz:Nat) (x y:O)
  |copy (sz:Nat) (x y:O)
  |clear (zero:List K) (x:O)
  |Kh (f:Nat) (bZ:List O)
  |Ki (f:Nat) (first:List O)
  |jI (zero:List K) (len cap:O)
  |call (f:Nat) (args:List O)
  |sg (x:O) (args:List O)
  |mq (q:MQ) (xs:List O)
  |mw (q:MW) (xs:List O)
  |HR (x:O)
  |HL (x:O)
  |snd (x y:O)
  |Nf (x:O)
  |bad
  deriving Repr,DecidableEq
structure aL where
  dst:Option Nat
  op:fW
  guard:Option (Nat×Bool)
  site:Nat
  hid:List Nat
  deriving Repr,DecidableEq
def q (d:Nat) (op:fW) (s:Nat):aL:=⟨some d,op,none,s,[]⟩
inductive VC where
  |skip
  |dR (draw:Bool) (ops:List aL)
  |seq (a b:VC)
  |cond (c:O) (x y:VC)
  |block (id:Nat) (c:VC)
  |loop (c:VC)
  |exit (id:Nat)
  |ret
  |one (o:aL) (c:VC)
  |both (a b:VC)
  |loc (t s:Nat) (y:O) (c:VC)
  |LX (ops:List aL)
  deriving Repr,DecidableEq
inductive mZ where
  |tmp (t:Nat)
  |cell (agg:Bool) (n:Nat) (t:Nat)
  deriving Repr,DecidableEq
structure zB where
  ntmps:Nat
  xE:Nat
  body:VC
  res:List mZ
  deriving Repr,DecidableEq
def fE (P:Program) (f:Nat):Bool:=
  match P.funcs[f]? with
  |some fn=>fn.body.isSome&& !(fn.name== "runtime.NumGoroutine")
  |none=>false
def cO (P:Program):Operand->Option O
  | .tmp t=>some (.t t)
  | .const (.agg cs)=>(cs.toList.mapM Fp).map O.ka
  | .const v=>(Fp v).map O.k
  | .global _=>none
  | .func f=>if fE P f then some (.f f)else none
def jt (P:Program) (t:TypeId):Option (List K):=
  match P.info? t with
  |some i=>match i.zero with
    |some v=>if v.cells.size=i.size then v.cells.toList.mapM Fp else none
    |none=>none
  |none=>none
def dG (P:Program) (t:TypeId):Option Nat:=(P.info? t).map (·.size)
def nk (P:Program) (t:TypeId):Option Bool:=
  match P.underlying t with
  |some (.struct _)|some (.array _ _)=>some true
  |some _=>some false
  |none=>none
inductive Ra where
  |sc (t:TS)|ag (ts:List TS)
  deriving Repr,DecidableEq
def e7 (P:Program) (t:TypeId):Option TS:=
  match P.underlying t with
  |some .bool=>some .tB
  |some (.int _)=>some .tI
  |some .string=>some .tS
  |_=>none
def Cg (P:Program) (inner:List Field->Option (List TS)):Nat->List Field->Option (List TS)
  |_,[]=>some []
  |off,f::r=>
    if f.offset=off/\f.name≠ "_" then
      match e7 P f.type with
      |some t=>if nk P f.type=some false then(Cg P inner (off+1) r).map (t::·)else none
      |none=>match P.underlying f.type with
        |some (.struct fs)=>if !P.stoodInHeld f.type then match inner fs.toList with
          |some ts=>if dG P f.type=some ts.length/\ts≠[]then(Cg P inner (off+ts.length) r).map (ts++·)else none
          |none=>none else none
        |_=>none
    else none
def dW (P:Program):Nat->Nat->List Field->Option (List TS)
  |0,_,[]=>some []
  |0,_,_::_=>none
  |d+1,off,fs=>Cg P (dW P d 0) off fs
def Rm (P:Program) (t:TypeId):Option Ra:=
  match e7 P t with
  |some s=>some (.sc s)
  |none=>match P.underlying t with
    |some (.struct fs)=>if !P.stoodInHeld t&& !P.eqGuardType P.depth t then(dW P 4 0 fs.toList).map Ra.ag else none
    |_=>none
def rh (P:Program) (fs:Array Field):List (Nat×O)->Option (List (Nat×Nat×O))
  |[]=>some []
  |(i,x)::r=>match fs[i]? with
    |some f=>match dG P f.type with
      |some n=>(rh P fs r).map ((f.offset,n,x)::·)
      |none=>none
    |none=>none
def rm (P:Program) (ps:Array (Nat×Operand)):Option (List (Nat×O)):=ps.toList.mapM fun(i,x)=>(cO P x).map (i,·)
def ql (P:Program):Option Operand->Option (Option O)
  |none=>some none
  |some x=>(cO P x).map some
def rj (P:Program) (neg:Bool) (t:TypeId) (x y:Operand):Option fW:=
  match y with
  | .const (.slice none 0 0)=>match P.underlying t with
    |some (.slice _)=>(cO P x).map (fW.OL neg false)
    |_=>none
  | .const .nilFunc=>match P.underlying t with
    |some (.func ..)=>(cO P x).map (fW.OL neg true)
    |_=>none
  | .const (.pointer none)=>match P.underlying t with
    |some (.pointer _)=>(cO P x).map (fW.Qk neg)
    |_=>none
  |_=>match Rm P t with
    |some (.sc s)=>do pure (.L4 neg s (<-cO P x) (<-cO P y))
    |some (.ag ts)=>do pure (.Qj neg ts (<-cO P x) (<-cO P y))
    |_=>none
def tW (P:Program) (op:BinOp) (t:TypeId) (x y:Operand):Option fW:=
  match op with
  | .eql=>rj P false t x y
  | .neq=>rj P true t x y
  | .shl=>do pure (.sh true (<-cO P x) (<-cO P y))
  | .shr=>do pure (.sh false (<-cO P x) (<-cO P y))
  |op=>match P.underlying t with
    |some (.int k)=>do pure (.bin op k (<-cO P x) (<-cO P y))
    |some .string=>do pure (.Jv op (<-cO P x) (<-cO P y))
    |_=>none
def rl (P:Program) (t:TypeId):Option (MK×K):=
  match P.underlying t with
  |some (.map k e)=>match nk P e,(P.info? e).bind (·.zero),e7 P k,P.underlying k with
    |some false,some zv,some s,_=>(Fp zv).map fun z=>(⟨false,[s]⟩,z)
    |some false,some zv,none,some (.struct fs)=>match dW P 4 0 fs.toList,Fp zv with
      |some ts,some z=>if !P.stoodInHeld k/\fs.toList.all (fun f=>(e7 P f.type).isSome)then some (⟨true,ts⟩,z)else none
      |_,_=>none
    |_,_,_,_=>none
  |_=>none
def mN (P:Program) (c:Call):Option fW:=
  match c.callee with
  | .builtin .len=>match c.args.toList,c.argTypes.toList with
    |[x],[t]=>match P.underlying t with
      |some (.slice _)=>(cO P x).map fW.len
      |some .string=>(cO P x).map fW.Kd
      |some (.map _ _)=>match rl P t,cO P x with
        |some (m,_),some x=>some (.mq (.len m) [x])
        |_,_=>none
      |some (.chan _ _)=>(cO P x).map fW.HL
      |_=>none
    |_,_=>none
  | .builtin .append=>match c.args.toList,c.argTypes.toList with
    |[x,y],[t,u]=>match P.underlying t with
      |some (.slice e)=>match dG P e,jt P e,P.info? e with
        |some (sz+1),some _,some i=>if i.bytes<=32768/\t=u then do pure (.append (sz+1) (<-cO P x) (<-cO P y))else none
        |_,_,_=>none
      |_=>none
    |_,_=>none
  | .builtin .clear=>match c.args.toList,c.argTypes.toList with
    |[x],[t]=>match P.underlying t with
      |some (.slice e)=>match dG P e,jt P e with
        |some (_+1),some z=>(cO P x).map (fW.clear z)
        |_,_=>none
      |_=>none
    |_,_=>none
  | .value (.func f)=>if fE P f then(c.args.toList.mapM (cO P)).map (fW.call f)else none
  | .value (.tmp t)=>(c.args.toList.mapM (cO P)).map (fW.sg (.t t))
  | .builtin .delete=>match c.args.toList,c.argTypes.toList with
    |[x,k],[t,_]=>match rl P t,cO P x,cO P k with
      |some (m,_),some x,some k=>some (.mw (.del m) [x,k])
      |_,_,_=>none
    |_,_=>none
  | .builtin .copy=>match c.args.toList,c.argTypes.toList with
    |[x,y],[t,_]=>match P.underlying t with
      |some (.slice e)=>match dG P e with
        |some (sz+1)=>do pure (.copy (sz+1) (<-cO P x) (<-cO P y))
        |_=>none
      |_=>none
    |_,_=>none
  |_=>none
def p7 (P:Program) (o:Op):Option fW:=
  match o with
  | .move x| .assign x=>(cO P x).map fW.cD
  | .pick c a b=>do pure (.pick (<-cO P c) (<-cO P a) (<-cO P b))
  | .alloc e=>(jt P e).map fW.new
  | .box _ x=>(cO P x).map fW.box
  | .load t a=>do pure (.load (<-nk P t) (<-dG P t) (<-cO P a))
  | .store t a x=>do pure (.store (<-dG P t) (<-cO P a) (<-cO P x))
  | .nilCheck x=>(cO P x).map fW.zC
  | .binOp op t x y _=>tW P op t x y
  | .unOp .not _ x=>(cO P x).map fW.not
  | .unOp .neg _ x=>(cO P x).map fW.neg
  | .convert s d x=>match P.underlying s,P.underlying d with
    |some (.int _),some (.int k)=>(cO P x).map (fW.conv k)
    |some .string,some .string=>(cO P x).map fW.DH
    |_,_=>none
  | .slice t x lo hi none=>match P.underlying t with
    |some (.slice e)=>do
      pure (.slice (<-dG P e) (<-cO P x) (<-ql P lo) (<-ql P hi))
    |some .string=>do pure (.zg (<-cO P x) (<-ql P lo) (<-ql P hi))
    |_=>none
  | .fieldAddr s x i=>match P.underlying s with
    |some (.struct fs)=>match fs[i]? with
      |some f=>match dG P f.type with
        |some (_+1)=>(cO P x).map (fW.fI f.offset)
        |_=>none
      |none=>none
    |_=>none
  | .field s x i=>match P.underlying s with
    |some (.struct fs)=>match fs[i]? with
      |some f=>do pure (.field (<-nk P f.type) f.offset (<-dG P f.type) (<-cO P x))
      |none=>none
    |_=>none
  | .indexAddr t x i=>match P.underlying t with
    |some (.slice e)=>match dG P e with
      |some (m+1)=>do pure (.dw (m+1) (<-cO P x) (<-cO P i))
      |_=>none
    |some (.array len e)=>match dG P e with
      |some (m+1)=>do pure (.J5 len (m+1) (<-cO P x) (<-cO P i))
      |_=>none
    |_=>none
  | .index t x i=>match P.underlying t with
    |some .string=>do pure (.J7 (<-cO P x) (<-cO P i))
    |some (.array len e)=>do pure (.dZ (<-nk P e) len (<-dG P e) (<-cO P x) (<-cO P i))
    |_=>none
  | .extract x i=>(cO P x).map (fW.extract i)
  | .build t ps=>match P.underlying t with
    |some (.struct fs)=>
      match jt P t,rm P ps with
      |some z,some l=>
        if fs.all (fun f=>(P.info? f.type).isSome)then(rh P fs l).map (fW.build z)else none
      |_,_=>none
    |some (.array _ e)=>
      match jt P t,rm P ps,dG P e with
      |some z,some l,some n=>some (.build z (l.map fun(i,x)=>(i*n,n,x)))
      |_,_,_=>none
    |_=>none
  | .buildSlice t len ps=>match P.underlying t with
    |some (.slice e)=>match dG P e,jt P e,rm P ps with
      |some (sz+1),some _,some l=>
        if len*(sz+1)<=4096/\l.map (·.1)=List.range len then some (.kj (sz+1) len (l.map (·.2)))else none
      |_,_,_=>none
    |_=>none
  | .makeFunc (.func f) first bZ=>
    if first= #[]/\fE P f then(bZ.toList.mapM (cO P)).map (fW.Kh f)else if bZ= #[]/\fE P f then(first.toList.mapM (cO P)).map (fW.Ki f)else none
  | .makeSlice t l c=>match P.underlying t with
    |some (.slice e)=>match dG P e,jt P e,P.info? e with
      |some (_+1),some z,some i=>if i.bytes<=32768 then do pure (.jI z (<-cO P l) (<-cO P c))else none
      |_,_,_=>none
    |_=>none
  | .call c=>mN P c
  | .makeChan t n=>match P.underlying t with
    |some (.chan _ e)=>match P.info? e with
      |some i=>if i.bytes<=32768 then(cO P n).map fW.HR else none
      |none=>none
    |_=>none
  | .send x y=>do pure (.snd (<-cO P x) (<-cO P y))
  | .recv t x false=>match P.underlying t with
    |some (.chan _ e)=>match (P.info? e).bind (·.zero)with
      |some _=>(cO P x).map fW.Nf
      |none=>none
    |_=>none
  | .makeMap t none=>match rl P t with
    |some (m,_)=>some (.mq (.new m) [])
    |none=>none
  | .lookup t x k ok=>match rl P t,cO P x,cO P k with
    |some (m,z),some x,some k=>some (.mq (.look m ok z) [x,k])
    |_,_,_=>none
  | .mapUpdate t x k v| .insert t x k v=>match rl P t,cO P x,cO P k,cO P v with
    |some (m,_),some x,some k,some v=>some (.mw (.set m) [x,k,v])
    |_,_,_,_=>none
  | .makeInterface _ _=>some .bad
  | .panic _=>some .bad
  |_=>none
inductive Q9 where
  |pure|look|make|write
  deriving DecidableEq,Repr
def fW.cls:fW->Q9
  | .new _| .box _| .kj .. | .jI .. | .mq (.new _) _| .HR _=>.make
  | .load .. | .dw .. | .slice .. | .call .. | .sg .. | .mq .. | .HL _=>.look
  | .store .. | .append .. | .copy .. | .clear .. | .mw .. | .snd .. | .Nf _=>.write
  |_=>.pure
def clash:Q9->Q9->Bool
  | .pure,_|_,.pure=>false
  | .write,_|_,.write=>true
  |_,_=>false
def jk (ops:Array Oper):Array Nat:=Region.before ops
def pQ:fW->Bool:=fun o=>o.cls==.make||o.cls==.write
def fW.ly:fW->Bool
  | .call .. | .sg .. =>true
  |_=>false
def BY (ops:Array Oper) (o:Oper):Option (Option (Nat×Bool)):=
  match o.guard with
  |none=>some none
  |some (i,b)=>match (ops[i]?).bind (·.dst)with
    |some t=>some (some (t,b))
    |none=>none
def km (P:Program) (ops:Array Oper) (nt site0:Nat) (draw mk:Bool) (bs:Array Nat) (hidden:List (Nat×Bool)) (j:Nat) (o:Oper):Option aL:=do
  let v <-p7 P o.op
  let g <-BY ops o
  if (o.dst.all fun d=>decide (d<nt))then
    pure {dst:=o.dst,op:=v,guard:=g,site:=site0+j,hid:=if draw then(hidden.filter fun(i,m)=>m&& !(bs.getD j 0).testBit i&&(i !=j||mk&&v.ly)).map fun(i,_)=>site0+i else[]}
  else none
def allM {α:Type} (f:Nat->Oper->Option α):List Oper->Nat->Option (List α)
  |[],_=>some []
  |o::r,j=>do pure ((<-f j o)::(<-allM f r (j+1)))
def gr:O->List Nat
  | .t n=>[n]
  |_=>[]
def uY:Option O->List Nat
  |some x=>gr x
  |none=>[]
def fW.gh:fW->List Nat
  | .clear _ x| .cD x| .box x| .load _ _ x| .zC x| .OL _ _ x| .Qk _ x| .not x| .neg x| .conv _ x| .DH x| .fI _ x| .field _ _ _ x| .extract _ x| .len x| .Kd x| .HR x| .HL x| .Nf x=>gr x
  | .pick c a b=>gr c++gr a++gr b
  | .new _| .bad=>[]
  | .build _ ps=>ps.flatMap fun(_,_,x)=>gr x
  | .kj _ _ ps=>ps.flatMap gr
  | .store _ a x| .snd a x=>gr a++gr x
  | .bin _ _ x y| .sh _ x y| .Jv _ x y| .L4 _ _ x y| .Qj _ _ x y| .dw _ x y| .J5 _ _ x y| .J7 x y| .dZ _ _ _ x y| .append _ x y| .copy _ x y| .jI _ x y=>gr x++gr y
  | .slice _ x lo hi| .zg x lo hi=>gr x++uY lo++uY hi
  | .Kh _ l| .Ki _ l| .call _ l| .mq _ l| .mw _ l=>l.flatMap gr
  | .sg x l=>gr x++l.flatMap gr
def aL.gh (v:aL):List Nat:=v.op.gh++(match v.guard with|some (t,_)=>[t]|none=>[])
def r5 (x y:aL):Bool:=
  (match x.dst with
   |some d=> !y.gh.contains d&&y.dst !=some d
   |none=>true)&&
  (match y.dst with
   |some d=> !x.gh.contains d
   |none=>true)
def aL.makes (v:aL):Bool:=pQ v.op||v.op.ly&&v.hid.contains v.site
def DQ (x y:aL):Bool:=
  r5 x y&& !clash x.op.cls y.op.cls&&(!x.makes||y.hid.contains x.site)&&(!y.makes||x.hid.contains y.site)&&x.site !=y.site
def DJ (ops:Array Oper):Bool:=ops.toList.zipIdx.all fun(o,j)=>o.after.all fun e=> !Region.binds .any e||decide (e.on<j)
def nH (ops:Array Oper) (vl:List aL) (bs:Array Nat):Bool:=
  DJ ops&&vl.zipIdx.all fun(y,j)=>vl.zipIdx.all fun(x,i)=> !(decide (i<j))||(bs.getD j 0).testBit i||DQ x y
def qm (P:Program) (nt site0:Nat) (ops:Array Oper) (draw mk:Bool):Option (List aL):=
  let bs:=if draw then jk ops else #[]
  let hidden:=if draw then ops.toList.zipIdx.map fun(o,i)=>(i,((p7 P o.op).map fun v=>pQ v||mk&&v.ly).getD false)else[]
  match allM (km P ops nt site0 draw mk bs hidden) ops.toList 0 with
  |some vl=>if !draw||nH ops vl bs then some vl else none
  |none=>none
def kD (v:aL):Bool:= !v.op.ly&&v.op.cls !=.write
def xe (x y:aL):Bool:=r5 x y&&x.op.cls==.pure||DQ x y&&kD x&&kD y
def pC (ops:Array Oper) (vl:List aL) (bs:Array Nat) (listed:Array Bool) (i:Nat):Bool:=
  match vl[i]? with
  |some x=>(List.range ops.size).all fun j=>listed.getD j false||j==i||(bs.getD j 0).testBit i||(match vl[j]? with|some y=>xe x y|none=>false)
  |none=>false
def Lq (vl:List aL) (x:aL):Option (Nat×Nat×O):=
  match x.op,x.guard with
  | .append _ (.t t) y,none=>match vl.find? fun v=>v.dst==some t&&v.op.cls==.make with
    |some v=>some (t,v.site,y)
    |none=>none
  |_,_=>none
def DP (s:Nat) (x y:aL):Bool:=r5 x y&&kD y&&y.hid.contains s&&y.hid.contains x.site&&y.site !=s&&y.site !=x.site
def nK (ops:Array Oper) (vl:List aL) (bs:Array Nat) (listed:Array Bool) (i s:Nat):Bool:=
  match vl[i]? with
  |some x=>(List.range ops.size).all fun j=>listed.getD j false||j==i||(bs.getD j 0).testBit i||(match vl[j]? with|some y=>DP s x y|none=>false)
  |none=>false
def M3 (ops:Array Oper) (vl:List aL) (bs:Array Nat) (listed:Array Bool) (i:Nat):Option (Nat×Nat×Nat×O×aL):=
  match vl[i]? with
  |some x=>match Lq vl x with
    |some (t,s,y)=>if nK ops vl bs listed i s then some (i,t,s,y,x)else none
    |none=>none
  |none=>none
def zT:List VC->Option VC
  |[]=>none
  |[c]=>some c
  |c::r=>(zT r).map (VC.both c)
def vO (ops:Array Oper) (vl:List aL) (bs:Array Nat):Nat->Array Bool->Option VC
  |0,listed=>
    match Region.ready .any ops listed with
    |[]=>some (.dR false [])
    |_::_=>none
  |n+1,listed=>
    match Region.ready .any ops listed with
    |[]=>some (.dR false [])
    |r::rs=>let rdy:=r::rs
      match rdy.find? (pC ops vl bs listed)with
      |some i=>match vl[i]? with
        |some vo=>(vO ops vl bs n (listed.setIfInBounds i true)).map (VC.one vo)
        |none=>none
      |none=>match rdy.findSome? (M3 ops vl bs listed)with
        |some (i,t,s,y,vo)=>(vO ops vl bs n (listed.setIfInBounds i true)).map fun c=>VC.loc t s y (.one vo c)
        |none=>match rdy.mapM fun i=>(vl[i]?).bind fun vo=>(vO ops vl bs n (listed.setIfInBounds i true)).map (VC.one vo)with
          |some l=>zT l
          |none=>none
def Lo:Op->Bool
  | .send .. | .recv .. =>true
  |_=>false
def OE (P:Program) (nt site0:Nat) (ops:Array Oper) (draw:Bool) (mode:Nat):Option VC:=
  if draw&&mode==2 then
    match allM (km P ops nt site0 true false (jk ops) (ops.toList.zipIdx.map fun(o,i)=>(i,((p7 P o.op).map pQ).getD false))) ops.toList 0 with
    |some vl=>vO ops vl (jk ops) ops.size (Array.replicate ops.size false)
    |none=>none
  else if !draw&&ops.any (fun o=>Lo o.op)then(qm P nt site0 ops false false).map VC.LX
  else(qm P nt site0 ops draw (mode==1)).map (VC.dR draw)
def uP (md:List (Nat×Nat)) (id:Nat):Nat:=
  match md with
  |[]=>0
  |(i,m)::r=>if i=id then m else uP r id
def iY (P:Program) (md:List (Nat×Nat)) (nt fid:Nat):Code->Option VC
  | .skip=>some .skip
  | .region id ops draw=>OE P nt ((fid*1000+id)*1000) ops draw (uP md id)
  | .seq a b=>do pure (.seq (<-iY P md nt fid a) (<-iY P md nt fid b))
  | .cond c x y=>do pure (.cond (<-cO P c) (<-iY P md nt fid x) (<-iY P md nt fid y))
  | .block id c=>(iY P md nt fid c).map (VC.block id)
  | .loop c=>(iY P md nt fid c).map VC.loop
  | .exit id=>some (.exit id)
  | .ret=>some .ret
  |_=>none
def BZ (P:Program) (r:ResultVar):Option mZ:=
  match r with
  | .tmp t=>some (.tmp t)
  | .cell a t=>do pure (.cell (<-nk P t) (<-dG P t) a)
def wh (P:Program) (f:Nat) (md:List (Nat×Nat)):Option zB:=
  match P.funcs[f]? with
  |some fn=>match fn.body with
    |some c=>do
      let b <-iY P md fn.ntmps f c
      let r <-fn.results.toList.mapM (BZ P)
      if fn.params.size+fn.nfree<=fn.ntmps then pure {ntmps:=fn.ntmps,xE:=fn.params.size+fn.nfree,body:=b,res:=r}else none
    |none=>none
  |none=>none
def np (P:Program) (f:Nat):Option zB:=wh P f []
end Go.Proofs.YtgoelphibofcmaaGreat.V

namespace Go.Proofs.YtgoelphibofcmaaGreat.V
open Go.RowKit
structure Row where
 w:Bool
 sz:Nat
 rows:List (List AV)
abbrev Rows:=Id->Option Row
structure ar where
 get:Rows
 next:Nat
abbrev Env:=Nat->AV
def upd (env:Env):Option Nat->AV->Env
 |some d,v=>fun t=>if t=d then v else env t
 |none,_=>env
inductive Ex where
 |normal
 |exit (id:Nat)
 |ret
 deriving DecidableEq
def cE (env:Env):O->AV
 | .t n=>env n
 | .k c=>c.av
 | .ka cs=>.agg (cs.map K.av)
 | .f n=>.fn n []
def bB (g:Rows) (id:Id) (r:Row):Rows:=fun i=>if i=id then some r else g i
def cr (g:Rows) (id:Id):Rows:=fun i=>if i=id then none else g i
def gQ:List Nat->Nat->Rows->Rows
 |[],_,g=>g
 |h::t,n,g=>fun id=>if (h::t).contains id.site=true/\id.aW=n then none else g id
def ro (g:Rows):Rows:=fun id=>(g id).map fun r=>{r with w:=false}
def part (agg:Bool) (n:Nat) (cs:List AV):Option AV:=
 if agg then(if n<=cs.length then some (.agg (cs.take n))else none)else cs.head?
def rowAt (g:Rows) (id:Id) (i:Nat):Option (List AV):=(g id).bind (·.rows[i]?)
def ld (g:Rows) (agg:Bool) (n:Nat):AV->Option AV
 | .ptr id i off=>(rowAt g id i).bind fun cs=>part agg n (cs.drop off)
 | .bK cs=>part agg n cs
 |_=>none
def dY:BinOp->IntKind->Int->Int->Option AV
 | .add,k,a,b=>some (.int k (k.wrap (a+b)))
 | .sub,k,a,b=>some (.int k (k.wrap (a-b)))
 | .mul,k,a,b=>some (.int k (k.wrap (a*b)))
 | .quo,k,a,b=>if b=0 then none else some (.int k (k.wrap (a.tdiv b)))
 | .rem,k,a,b=>if b=0 then none else some (.int k (a.tmod b))
 | .lss,_,a,b=>some (.bool (decide (a<b)))
 | .leq,_,a,b=>some (.bool (decide (a<=b)))
 | .gtr,_,a,b=>some (.bool (decide (b<a)))
 | .geq,_,a,b=>some (.bool (decide (b<=a)))
 | .and,k,a,b=>some (.int k (k.wrap (BitVec.ofInt k.bits a&&& BitVec.ofInt k.bits b).toNat))
 | .or,k,a,b=>some (.int k (k.wrap (BitVec.ofInt k.bits a|||BitVec.ofInt k.bits b).toNat))
 | .xor,k,a,b=>some (.int k (k.wrap (BitVec.ofInt k.bits a ^^^ BitVec.ofInt k.bits b).toNat))
 |_,_,_,_=>none
def eG (op:BinOp):AV->AV->Option AV
 | .int k a,.int k' b=>if k=k' then dY op k a b else none
 |_,_=>none
def jq (left:Bool):AV->AV->Option AV
 | .int k a,.int _ b=>if b<0 then none else some (.int k (if left then k.wrap (a*2 ^ min b.toNat k.bits)else a.fdiv (2 ^ min b.toNat k.bits)))
 |_,_=>none
def eT:BinOp->ByteArray->ByteArray->Option AV
 | .add,a,b=>if a.size+b.size<=9223372036854775807 then some (.str (a++b))else none
 | .lss,a,b=>some (.bool (Op.bytesLess a.toList b.toList))
 | .leq,a,b=>some (.bool (Op.bytesLess a.toList b.toList||(a.toList==b.toList)))
 | .gtr,a,b=>some (.bool !(Op.bytesLess a.toList b.toList||(a.toList==b.toList)))
 | .geq,a,b=>some (.bool !(Op.bytesLess a.toList b.toList))
 |_,_,_=>none
def dq (op:BinOp):AV->AV->Option AV
 | .str a,.str b=>eT op a b
 |_,_=>none
def gP:TS->AV->AV->Option Bool
 | .tI,.int k a,.int k' b=>if k=k' then some (decide (a=b))else none
 | .tB,.bool a,.bool b=>some (a==b)
 | .tS,.str a,.str b=>some (decide (a=b))
 |_,_,_=>none
def fx:List TS->List AV->List AV->Option Bool
 |[],[],[]=>some true
 |t::ts,a::r,b::s=>match gP t a b,fx ts r s with
  |some x,some y=>some (x&&y)
  |_,_=>none
 |_,_,_=>none
def dE (neg b:Bool):Bool:=if neg then !b else b
def dn:AV->Option Bool
 | .cu=>some true
 | .own _ _ _=>some false
 | .sl (_::_)=>some false
 |_=>none
def dm:AV->Option Bool
 | .jn=>some true
 | .fn _ _=>some false
 |_=>none
def II:AV->Option Bool
 | .gx=>some true
 | .ptr .. | .bK _=>some false
 |_=>none
def eK (Ka:Bool) (x:AV):Option Bool:=if Ka then dm x else dn x
def eu (len:Nat):Option AV->Option Nat
 |none=>some len
 |some (.int _ n)=>if 0<=n/\n<=len then some n.toNat else none
 |_=>none
def ew (h:Nat):Option AV->Option Nat
 |none=>some 0
 |some (.int _ n)=>if 0<=n/\n<=h then some n.toNat else none
 |_=>none
def bU (g:Rows) (sz:Nat) (x:AV) (lo hi:Option AV):Option AV:=
 match x with
 | .cu=>(eu 0 hi).bind fun h=>(ew h lo).map fun _=>.cu
 | .sl rows=>(eu rows.length hi).bind fun h=>(ew h lo).bind fun l=>if ∀cs∈rows,cs.length=sz then some (.sl ((rows.drop l).take (h-l)))else none
 | .own id off len=>(g id).bind fun r=>(eu len hi).bind fun h=>(ew h lo).bind fun l=>if r.sz=sz then some (.own id (off+l) (h-l))else none
 |_=>none
def bp (x:AV) (lo hi:Option AV):Option AV:=
 match x with
 | .str s=>(eu s.size hi).bind fun h=>(ew h lo).map fun l=>.str (s.extract l h)
 |_=>none
def Dr (off:Nat):AV->Option AV
 | .ptr id i o=>some (.ptr id i (o+off))
 | .bK cs=>some (.bK (cs.drop off))
 |_=>none
def bR (g:Rows) (sz:Nat):AV->AV->Option AV
 | .sl rows,.int _ n=>if 0<=n then(rows[n.toNat]?).bind fun cs=>if cs.length=sz then some (.bK cs)else none else none
 | .own id off len,.int _ n=>if 0<=n/\n<len then(g id).bind fun r=>if r.sz=sz then some (.ptr id (off+n.toNat) 0)else none else none
 |_,_=>none
def db (len sz:Nat):AV->AV->Option AV
 | .ptr id r off,.int _ n=>if 0<=n/\n<len then some (.ptr id r (off+n.toNat*sz))else none
 | .bK cs,.int _ n=>if 0<=n/\n<len then some (.bK (cs.drop (n.toNat*sz)))else none
 |_,_=>none
def de:AV->AV->Option AV
 | .str s,.int _ n=>if 0<=n then(s[n.toNat]?).map fun b=>.int .u8 b.toNat else none
 |_,_=>none
def dc (agg:Bool) (len n:Nat):AV->AV->Option AV
 | .agg cs,.int _ i=>if 0<=i/\i<len then part agg n (cs.drop (i.toNat*n))else none
 |_,_=>none
def eI:AV->Option Nat
 | .cu=>some 0
 | .sl rows=>some rows.length
 | .own _ _ n=>some n
 |_=>none
def eL:AV->Option AV
 | .bool b=>some (.bool !b)
 |_=>none
def eJ:AV->Option AV
 | .int k n=>some (.int k (k.wrap (0-n)))
 |_=>none
def da (k:IntKind):AV->Option AV
 | .int _ n=>some (.int k (k.wrap n))
 |_=>none
def cm:AV->Option AV
 | .str s=>some (.str s)
 |_=>none
def dp:AV->AV->AV->Option AV
 | .bool c,a,b=>some (if c then a else b)
 |_,_,_=>none
def eH:AV->Option AV
 | .ptr id i o=>some (.ptr id i o)
 | .bK cs=>some (.bK cs)
 |_=>none
def bQ (agg:Bool) (off n:Nat):AV->Option AV
 | .agg cs=>if off+n<=cs.length then part agg n (cs.drop off)else none
 |_=>none
def aO (i:Nat):AV->Option AV
 | .gN vs=>vs[i]?
 |_=>none
def di:AV->Option AV
 | .str s=>some (.int .i64 s.size)
 |_=>none
def rowOf (sz:Nat) (v:AV):Option (List AV):=if v.cells.length=sz/\v.cells.all AV.cell then some v.cells else none
def cY (v:AV):Option (List AV):=if v.cells.all AV.cell then some v.cells else none
def rowsOf (sz:Nat):List AV->Option (List (List AV))
 |[]=>some []
 |v::r=>(rowOf sz v).bind fun c=>(rowsOf sz r).map fun cs=>c::cs
def cI:List AV->List (Nat×Nat×AV)->Option (List AV)
 |cs,[]=>some cs
 |cs,(off,n,v)::r=>if v.cells.length=n/\off+n<=cs.length/\v.cells.all AV.cell then cI (cs.take off++v.cells++cs.drop (off+n)) r else none
def ea:Nat:=16777216
def jo (zero:List K):AV->AV->Option (Nat×Row)
 | .int _ l,.int _ c=>if 0<=l/\l<=c/\c<=ea then some (l.toNat,⟨true,zero.length,List.replicate l.toNat (zero.map K.av)⟩)else none
 |_,_=>none
def yQ:Nat:=1000000000
def MK.ks (m:MK):Nat:=m.ts.length
def MK.nv (m:MK):Nat:=yQ+m.ks
def AV.isAgg:AV->Bool
 | .agg _=>true
 |_=>false
def fP (m:MK) (key:List AV):List (List AV)->Nat->Option (Option Nat)
 |[],_=>some none
 |r::l,i=>match fx m.ts key (r.take m.ks)with
  |some true=>some (some i)
  |some false=>fP m key l (i+1)
  |none=>none
def eA (g:Rows) (m:MK):AV->Option (Id×Row)
 | .map id m'=>if m'=m then(g id).map fun r=>(id,r)else none
 |_=>none
def fF (m:MK) (k:AV) (rows:List (List AV)):Option (Option Nat):=if k.isAgg=m.ka/\k.cells.length=m.ks/\k.cells.all AV.cell then fP m k.cells rows 0 else none
def eE (m:MK) (z:K) (rows:List (List AV)):Option Nat->Option AV
 |some i=>(rows[i]?).bind fun cs=>cs[m.ks]?
 |none=>some z.av
def bG (q:MQ) (vs:List AV) (g:Rows) (id:Id):Option (AV×Option Row):=
 match q,vs with
 | .new m,[]=>some (.map id m,some ⟨true,m.nv,[]⟩)
 | .look m ok z,[x,k]=>(eA g m x).bind fun p=>(fF m k p.2.rows).bind fun fi=>(eE m z p.2.rows fi).map fun v=>(if ok then .gN [v,.bool fi.isSome]else v,none)
 | .len m,[x]=>(eA g m x).map fun p=>(.int .i64 p.2.rows.length,none)
 |_,_=>none
def pB:Nat:=2000000000
def dj:AV->Option Nat
 | .int _ n=>if 0<=n/\n<=1048576 then some n.toNat else none
 |_=>none
def dh (g:Rows):AV->Option AV
 | .si id=>(g id).map fun r=>.int .i64 r.rows.length
 |_=>none
def eO (g:Rows):AV->AV->Option Rows
 | .si id,v=>(g id).bind fun r=>if r.w/\pB+r.rows.length<r.sz/\v.cell then some (bB g id {r with rows:=r.rows++[[v]]})else none
 |_,_=>none
def eM (g:Rows):AV->Option (AV×Rows)
 | .si id=>(g id).bind fun r=>match r.rows with
  |[v]::rest=>if r.w then some (v,bB g id {r with rows:=rest})else none
  |_=>none
 |_=>none
def ei (rows:List (List AV)) (e:List AV):Option Nat->List (List AV)
 |some i=>rows.set i e
 |none=>rows++[e]
def ep (rows:List (List AV)):Option Nat->List (List AV)
 |some i=>rows.eraseIdx i
 |none=>rows
def bJ (q:MW) (vs:List AV) (g:Rows):Option Rows:=
 match q,vs with
 | .set m,[x,k,v]=>(eA g m x).bind fun p=>(fF m k p.2.rows).bind fun fi=>if p.2.w/\v.cell/\v.isAgg=false then some (bB g p.1 {p.2 with rows:=ei p.2.rows (k.cells++[v]) fi})else none
 | .del m,[x,k]=>(eA g m x).bind fun p=>(fF m k p.2.rows).bind fun fi=>if p.2.w then some (bB g p.1 {p.2 with rows:=ep p.2.rows fi})else none
 |_,_=>none
def eW (o:fW) (ρ:O->AV) (g:Rows) (id:Id):Option (AV×Option Row):=
 match o with
 | .cD x=>some (ρ x,none)
 | .pick c a b=>(dp (ρ c) (ρ a) (ρ b)).map (·,none)
 | .new zero=>some (.ptr id 0 0,some ⟨true,zero.length,[zero.map K.av]⟩)
 | .box x=>(cY (ρ x)).map fun cs=>(.ptr id 0 0,some ⟨true,cs.length,[cs]⟩)
 | .build zero parts=>(cI (zero.map K.av) (parts.map fun(o,n,x)=>(o,n,ρ x))).map fun cs=>(.agg cs,none)
 | .kj sz len parts=>(rowsOf sz (parts.map ρ)).map fun rs=>(.own id 0 len,some ⟨true,sz,rs⟩)
 | .load agg n a=>(ld g agg n (ρ a)).map (·,none)
 | .zC x=>(eH (ρ x)).map (·,none)
 | .bin op _ x y=>(eG op (ρ x) (ρ y)).map (·,none)
 | .sh left x y=>(jq left (ρ x) (ρ y)).map (·,none)
 | .Jv op x y=>(dq op (ρ x) (ρ y)).map (·,none)
 | .L4 neg t x y=>(gP t (ρ x) (ρ y)).map fun b=>(.bool (dE neg b),none)
 | .Qj neg ts x y=>match ρ x,ρ y with
  | .agg xs,.agg ys=>(fx ts xs ys).map fun b=>(.bool (dE neg b),none)
  |_,_=>none
 | .OL neg Ka x=>(eK Ka (ρ x)).map fun b=>(.bool (dE neg b),none)
 | .Qk neg x=>(II (ρ x)).map fun b=>(.bool (dE neg b),none)
 | .not x=>(eL (ρ x)).map (·,none)
 | .neg x=>(eJ (ρ x)).map (·,none)
 | .conv k x=>(da k (ρ x)).map (·,none)
 | .DH x=>(cm (ρ x)).map (·,none)
 | .slice sz x lo hi=>(bU g sz (ρ x) (lo.map ρ) (hi.map ρ)).map (·,none)
 | .zg x lo hi=>(bp (ρ x) (lo.map ρ) (hi.map ρ)).map (·,none)
 | .fI off x=>(Dr off (ρ x)).map (·,none)
 | .field agg off n x=>(bQ agg off n (ρ x)).map (·,none)
 | .dw sz x i=>(bR g sz (ρ x) (ρ i)).map (·,none)
 | .J5 len sz x i=>(db len sz (ρ x) (ρ i)).map (·,none)
 | .J7 x i=>(de (ρ x) (ρ i)).map (·,none)
 | .dZ agg len n x i=>(dc agg len n (ρ x) (ρ i)).map (·,none)
 | .extract i x=>(aO i (ρ x)).map (·,none)
 | .len x=>(eI (ρ x)).map fun(n:Nat)=>(AV.int .i64 (n:Int),none)
 | .Kd x=>(di (ρ x)).map (·,none)
 | .Kh f bZ=>some (.fn f (bZ.map ρ),none)
 | .Ki f first=>some (.tb f (first.map ρ),none)
 | .jI zero l c=>(jo zero (ρ l) (ρ c)).map fun(n,r)=>(.own id 0 n,some r)
 | .mq q xs=>bG q (xs.map ρ) g id
 | .HR x=>(dj (ρ x)).map fun n=>(.si id,some ⟨true,pB+n,[]⟩)
 | .HL x=>(dh g (ρ x)).map (·,none)
 |_=>none
def bE (g:Rows):AV->Option (List (List AV))
 | .cu=>some []
 | .sl rows=>some rows
 | .own id off len=>(g id).bind fun r=>if off+len<=r.rows.length then some ((r.rows.drop off).take len)else none
 |_=>none
def cU (cs:List AV) (off:Nat) (xs:List AV):List AV:=cs.take off++xs++cs.drop (off+xs.length)
def bV (g:Rows) (n:Nat) (v:AV):AV->Option Rows
 | .ptr id i off=>(g id).bind fun r=>(r.rows[i]?).bind fun cs=>
  if r.w/\v.cells.length=n/\v.cells.all AV.cell/\off+n<=cs.length then some (bB g id {r with rows:=r.rows.set i (cU cs off v.cells)})else none
 |_=>none
def aY (g:Rows) (id:Id) (sz:Nat) (x:AV) (ys:List (List AV)):Option (AV×Rows):=
 match x with
 | .cu=>match ys with
  |[]=>some (.cu,g)
  |y::r=>if (y::r).length<=ea/\(y::r).all (fun c=>c.length==sz&&c.all AV.cell)then some (.own id 0 (y::r).length,bB g id ⟨true,sz,y::r⟩)else none
 | .own i 0 len=>(g i).bind fun r=>
  if r.w/\r.sz=sz/\len=r.rows.length/\len+ys.length<=ea/\ys.all (fun c=>c.length==sz&&c.all AV.cell)then some (.own id 0 (len+ys.length),bB (cr g i) id ⟨true,sz,r.rows++ys⟩)else none
 |_=>none
def Es (g:Rows) (sz:Nat) (x:AV) (ys:List (List AV)):Option (AV×Rows):=
 match x with
 | .own i off len=>(g i).bind fun r=>
  if r.w/\r.sz=sz/\off+len<=r.rows.length/\ys.all (fun c=>c.length==sz&&c.all AV.cell)then
   some (.int .i64 (min ys.length len:Nat),bB g i {r with rows:=r.rows.take off++ys.take (min ys.length len)++r.rows.drop (off+min ys.length len)})else none
 |_=>none
def bP (g:Rows) (zero:List K) (x:AV):Option Rows:=
 match x with
 | .cu=>some g
 | .own i off len=>(g i).bind fun r=>
  if r.w/\r.sz=zero.length/\off+len<=r.rows.length then
   some (bB g i {r with rows:=r.rows.take off++List.replicate len (zero.map K.av)++r.rows.drop (off+len)})else none
 |_=>none
def gR (o:fW) (ρ:O->AV) (g:Rows) (id:Id):Option (AV×Rows):=
 match o with
 | .store n a x=>(bV g n (ρ x) (ρ a)).map fun g'=>(.undef,g')
 | .append sz x y=>(bE g (ρ y)).bind fun ys=>aY g id sz (ρ x) ys
 | .copy sz x y=>(bE g (ρ y)).bind fun ys=>Es g sz (ρ x) ys
 | .clear zero x=>(bP g zero (ρ x)).map fun g'=>(.undef,g')
 | .mw q xs=>(bJ q (xs.map ρ) g).map fun g'=>(.undef,g')
 |_=>none
def tX:AV->List AV->Option (Nat×List AV)
 | .fn f bZ,l=>some (f,l++bZ)
 | .tb f first,l=>some (f,first++l)
 |_,_=>none
abbrev fq:=Nat->List AV->ar->(AV->ar->Prop)->Prop
mutual
def fz (g:Rows):Nat->AV->Option AV
 |0,_=>none
 |n+1,a=>match a with
  | .own id off len=>match g id with
   |some r=>if r.w then(if off+len<=r.rows.length then(dJ g n ((r.rows.drop off).take len)).map AV.sl else none)else none
   |none=>none
  | .ptr id i off=>match g id with
   |some r=>if r.w then(match r.rows[i]? with
    |some cs=>(cH g n (cs.drop off)).map AV.bK
    |none=>none)else none
   |none=>none
  | .agg cs=>(cH g n cs).map AV.agg
  | .gN vs=>(cH g n vs).map AV.gN
  | .fn f bZ=>if bZ.all AV.cell then(cH g n bZ).map (AV.fn f)else none
  | .map _ _| .tb _ _| .si _=>none
  |v=>some v
 termination_by n _=>(n,0)
def cH (g:Rows):Nat->List AV->Option (List AV)
 |n,[]=>some []
 |n,a::r=>match fz g n a with
  |some b=>(cH g n r).map (b::·)
  |none=>none
 termination_by n l=>(n,l.length+1)
def dJ (g:Rows):Nat->List (List AV)->Option (List (List AV))
 |n,[]=>some []
 |n,c::r=>match cH g n c with
  |some b=>(dJ g n r).map (b::·)
  |none=>none
 termination_by n l=>(n,(l.map (fun c=>c.length+2)).sum+1)
 decreasing_by all_goals simp_wf;try omega
end
mutual
def fX (g:Rows):Nat->AV->Option AV
 |0,_=>none
 |n+1,a=>match a with
  | .own id off len=>match g id with
   |some r=>if r.w then(if off+len<=r.rows.length then(gL g n ((r.rows.drop off).take len)).map AV.sl else none)else none
   |none=>none
  | .ptr id i off=>match g id with
   |some r=>if r.w then(match r.rows[i]? with
    |some cs=>(dS g n (cs.drop off)).map AV.bK
    |none=>none)else none
   |none=>none
  | .agg cs=>(dS g n cs).map AV.agg
  | .gN vs=>(dS g n vs).map AV.gN
  | .int k m=>some (.int k m)
  | .bool b=>some (.bool b)
  | .str s=>some (.str s)
  | .cu=>some .cu
  | .gx=>some .gx
  | .jn=>some .jn
  | .jD=>some .jD
  |_=>none
 termination_by n _=>(n,0)
def dS (g:Rows):Nat->List AV->Option (List AV)
 |n,[]=>some []
 |n,a::r=>match fX g n a with
  |some b=>(dS g n r).map (b::·)
  |none=>none
 termination_by n l=>(n,l.length+1)
def gL (g:Rows):Nat->List (List AV)->Option (List (List AV))
 |n,[]=>some []
 |n,c::r=>match dS g n c with
  |some b=>(gL g n r).map (b::·)
  |none=>none
 termination_by n l=>(n,(l.map (fun c=>c.length+2)).sum+1)
 decreasing_by all_goals simp_wf;try omega
end
def eh (g:Rows):Rows:=fun id=>(g id).map fun r=>{r with w:=true}
def PC (X:fq) (f:Nat) (args:List AV) (σ:ar) (K:AV->Prop):Prop:=
 X f args ⟨ro σ.get,σ.next⟩ fun r σ'=>∃r',fz σ'.get 6 r=some r'/\K r'
def PCv (X:fq) (f:Nat) (args:List AV) (σ:ar) (K:AV->Prop):Prop:=
 ∃fb,cH (eh σ.get) 6 args=some fb/\X f fb ⟨fun _=>none,σ.next⟩ fun r σ'=>∃r',fX σ'.get 6 r=some r'/\K r'
def ib (X:fq) (f:Nat) (args:List AV) (σ:ar) (K:AV->Prop):Prop:=PC X f args σ K∨PCv X f args σ K
def aJ (g:Option (Nat×Bool)) (env:Env):Bool:=
 match g with
 |none=>true
 |some (t,b)=>match env t with
  | .bool c=>c==b
  |_=>false
def AV.plain:AV->Bool
 | .int .. | .bool _| .str _| .cu| .gx| .jn| .jD=>true
 |_=>false
def CM (X:fq) (f:Nat) (args:List AV) (σ:ar) (sz:Nat) (rows:List (List AV)):Prop:=
 (∀c∈rows,∀a∈c,a.plain=true)/\∃fb,cH (eh σ.get) 6 args=some fb/\X f fb ⟨fun _=>none,σ.next⟩ fun r σ'=>∃id,r=.own id 0 rows.length/\σ'.get id=some ⟨true,sz,rows⟩
def cJ (X:fq) (draw:Bool) (hid:List Nat) (site:Nat) (f:Nat) (args:List AV) (σ:ar) (next:AV->ar->Prop):Prop:=
 (∃r,ib X f args ⟨gQ hid σ.next σ.get,σ.next+1⟩ (fun r'=>r'=r)/\next r σ)∨
 (draw=false/\X f args ⟨σ.get,σ.next+1⟩ next)∨
 (hid.contains site=true/\∃sz rows,CM X f args ⟨gQ hid σ.next σ.get,σ.next+1⟩ sz rows/\next (.own ⟨site,σ.next⟩ 0 rows.length) ⟨bB σ.get ⟨site,σ.next⟩ ⟨true,sz,rows⟩,σ.next⟩)
def gu (X:fq) (draw:Bool) (o:aL) (env:Env) (σ:ar) (next:AV->ar->Prop):Prop:=
 match o.op with
 | .call f args=>cJ X draw o.hid o.site f (args.map (cE env)) σ next
 | .sg x args=>match cE env x with
  | .fn f bZ=>cJ X draw o.hid o.site f (args.map (cE env)++bZ) σ next
  | .tb f first=>cJ X draw o.hid o.site f (first++args.map (cE env)) σ next
  |_=>False
 | .store .. | .append .. | .copy .. | .clear .. | .mw .. =>match gR o.op (cE env) σ.get ⟨o.site,σ.next⟩with
  |some (v,g)=>next v ⟨g,σ.next⟩
  |none=>False
 |_=>match eW o.op (cE env) (gQ o.hid σ.next σ.get) ⟨o.site,σ.next⟩with
  |some (v,some r)=>next v ⟨bB σ.get ⟨o.site,σ.next⟩ r,σ.next⟩
  |some (v,none)=>next v σ
  |none=>False
def wpOps (X:fq) (draw:Bool):List aL->(Env->ar->Prop)->Env->ar->Prop
 |[],K,env,σ=>K env ⟨σ.get,σ.next+1⟩
 |o::r,K,env,σ=>
  if aJ o.guard env then gu X draw o env σ fun v σ'=>wpOps X draw r K (upd env o.dst v) σ'
  else wpOps X draw r K (upd env o.dst .undef) σ
def cG:List aL->(Env->ar->Prop)->Env->ar->Prop
 |[],K,env,σ=>K env ⟨σ.get,σ.next+1⟩
 |o::r,K,env,σ=>o.guard=none/\match o.op with
  | .snd x y=>match eO σ.get (cE env x) (cE env y)with
   |some g=>cG r K (upd env o.dst .undef) ⟨g,σ.next⟩
   |none=>False
  | .Nf x=>match eM σ.get (cE env x)with
   |some (v,g)=>cG r K (upd env o.dst v) ⟨g,σ.next⟩
   |none=>False
  |op=>match eW op (cE env) σ.get ⟨o.site,σ.next⟩with
   |some (v,none)=>cG r K (upd env o.dst v) σ
   |_=>False
def du (next:Env->ar->Prop) (Q:Ex->Env->ar->Prop):Ex->Env->ar->Prop
 | .normal=>next
 |e=>Q e
def aV (id:Nat) (Q:Ex->Env->ar->Prop):Ex->Env->ar->Prop
 | .exit jR=>if jR=id then Q .normal else Q (.exit jR)
 |e=>Q e
def Ee (W:(Ex->Env->ar->Prop)->Env->ar->Prop) (Q:Ex->Env->ar->Prop):Nat->Env->ar->Prop
 |0=>fun _ _=>False
 |n+1=>W (du (Ee W Q n) Q)
def Ke (t s:Nat) (y:O) (env:Env) (n:Nat):Prop:=(∃len,env t=.own ⟨s,n⟩ 0 len)/\∀id o l,cE env y=.own id o l->id.aW≠n
def dI (X:fq):VC->(Ex->Env->ar->Prop)->Env->ar->Prop
 | .skip,Q=>Q .normal
 | .dR draw ops,Q=>wpOps X draw ops (Q .normal)
 | .seq a b,Q=>dI X a (du (dI X b Q) Q)
 | .cond c x y,Q=>fun env σ=>match cE env c with
  | .bool b=>if b then dI X x Q env σ else dI X y Q env σ
  |_=>False
 | .block id c,Q=>dI X c (aV id Q)
 | .loop c,Q=>fun env σ=>∃n,Ee (dI X c) Q n env σ
 | .exit id,Q=>Q (.exit id)
 | .ret,Q=>Q .ret
 | .one o c,Q=>fun env σ=>if aJ o.guard env then gu X false o env σ fun v σ'=>dI X c Q (upd env o.dst v) σ' else dI X c Q (upd env o.dst .undef) σ
 | .both a b,Q=>fun env σ=>dI X a Q env σ/\dI X b Q env σ
 | .loc t s y c,Q=>fun env σ=>Ke t s y env σ.next/\dI X c Q env σ
 | .LX ops,Q=>cG ops (Q .normal)
def gO (env:Env) (g:Rows):mZ->Option AV
 | .tmp t=>some (env t)
 | .cell agg n t=>ld g agg n (env t)
def eY (env:Env) (g:Rows):List mZ->Option (List AV)
 |[]=>some []
 |r::l=>(gO env g r).bind fun v=>(eY env g l).map (v::·)
def fe:List AV->AV
 |[v]=>v
 |l=>.gN l
def cw (args:List AV):Env:=fun t=>args.getD t .undef
def j8 (res:List mZ) (K:AV->ar->Prop):Ex->Env->ar->Prop
 | .exit _,_,_=>False
 |_,env,σ=>∃vs,eY env σ.get res=some vs/\K (fe vs) σ
end Go.Proofs.YtgoelphibofcmaaGreat.V

namespace Go.Proofs.YtgoelphibofcmaaGreat.V
open Go.RowKit
inductive jr (P:Program) (w:World) (D:Nat->Prop):AV->Value->Prop
 |int (k n):jr P w D (.int k n) (.int k n)
 |bool (b):jr P w D (.bool b) (.bool b)
 |str (s):jr P w D (.str s) (.string s)
 |cu:jr P w D .cu (.slice none 0 0)
 |gx:jr P w D .gx (.pointer none)
 |jn:jr P w D .jn .nilFunc
 |C9 (a c):c<=maxLen->jr P w D (.sl []) (.slice a 0 c)
 |sl (rows b o n c sz) (vs:Nat->Nat->Value):rows.length=n->n<=c->c<=maxLen->D b->(∀cs∈rows,cs.length=sz)->(∀cs∈rows,∀a∈cs,a.cell=true)->
   (∀i j,i<n->j<sz->w.cell? ⟨b,o+(i*sz+j),none⟩=some (vs i j))->
   (∀i j cs a,rows[i]? =some cs->cs[j]? =some a->jr P w D a (vs i j))->jr P w D (.sl rows) (.slice (some ⟨b,o,none⟩) n c)
 |bK (cs b o) (vs:Nat->Value):D b->(∀a∈cs,a.cell=true)->(∀j,j<cs.length->w.cell? ⟨b,o+j,none⟩=some (vs j))->
   (∀j a,cs[j]? =some a->jr P w D a (vs j))->jr P w D (.bK cs) (.pointer (some ⟨b,o,none⟩))
 |agg (cs) (vs:Array Value) (f:Nat->Value):vs.size=cs.length->(∀a∈cs,a.cell=true)->(∀j,j<cs.length->vs[j]? =some (f j))->(∀j a,cs[j]? =some a->jr P w D a (f j))->jr P w D (.agg cs) (.agg vs)
 |fn (f bZ) (vs:Array Value) (g:Nat->Value):fE P f=true->vs.size=bZ.length->(∀j,j<bZ.length->vs[j]? =some (g j))->(∀j a,bZ[j]? =some a->jr P w D a (g j))->jr P w D (.fn f bZ) (.func (.func f) #[] vs)
 |jD:jr P w D .jD (.map none)
inductive BK where
 |map (m:MK)
 |chan (cap:Nat)
structure re where
 b:Nat
 sz:Nat
 C:Nat
 k:Option BK
abbrev Names:=Id->Option re
inductive cq (P:Program) (w:World) (D:Nat->Prop) (ι:Names):AV->Value->Prop
 |eD (a v):jr P w D a v->cq P w D ι a v
 |own (id off len o cap B):ι id=some B->B.k=none->len<=cap->(cap=0∨o=off*B.sz)->(off+cap)*B.sz<=B.C->cap<=maxLen->cq P w D ι (.own id off len) (.slice (some ⟨B.b,o,none⟩) len cap)
 |ptr (id i off B):ι id=some B->B.k=none->cq P w D ι (.ptr id i off) (.pointer (some ⟨B.b,i*B.sz+off,none⟩))
 |agg (cs) (vs:Array Value) (f:Nat->Value):vs.size=cs.length->(∀a∈cs,a.cell=true)->(∀j,j<cs.length->vs[j]? =some (f j))->(∀j a,cs[j]? =some a->cq P w D ι a (f j))->cq P w D ι (.agg cs) (.agg vs)
 |gN (cs) (vs:Array Value) (f:Nat->Value):vs.size=cs.length->(∀j,j<cs.length->vs[j]? =some (f j))->(∀j a,cs[j]? =some a->cq P w D ι a (f j))->cq P w D ι (.gN cs) (.tuple vs)
 |fn (f bZ) (vs:Array Value) (g:Nat->Value):fE P f=true->vs.size=bZ.length->(∀j,j<bZ.length->vs[j]? =some (g j))->(∀j a,bZ[j]? =some a->cq P w D ι a (g j))->cq P w D ι (.fn f bZ) (.func (.func f) #[] vs)
 |si (id c B):ι id=some B->B.k=some (.chan c)->cq P w D ι (.si id) (.chan (some B.b))
 |map (id m B):ι id=some B->B.k=some (.map m)->cq P w D ι (.map id m) (.map (some B.b))
 |tb (f bZ) (vs:Array Value) (g:Nat->Value):fE P f=true->vs.size=bZ.length->(∀j,j<bZ.length->vs[j]? =some (g j))->(∀j a,bZ[j]? =some a->cq P w D ι a (g j))->cq P w D ι (.tb f bZ) (.func (.func f) vs #[])
variable {P:Program} {w w':World} {D D':Nat->Prop} {ι ι':Names}
theorem jr.frame (hD:∀b,D b->w'.heap[b]? =w.heap[b]?) (hs:∀b,D b->D' b) {a:AV} {v:Value} (h:jr P w D a v):jr P w' D' a v:=by
 induction h with
 |int k n=>exact .int k n
 |bool b=>exact .bool b
 |str s=>exact .str s
 |cu=>exact .cu
 |gx=>exact .gx
 |jn=>exact .jn
 |jD=>exact .jD
 |C9 a c h=>exact .C9 a c h
 |sl rows b o n c sz vs h1 h2 h3 h4 h5 h5' h6 _ ih=>exact .sl rows b o n c sz vs h1 h2 h3 (hs b h4) h5 h5' (fun i j hi hj=>(World.cell?_of_block (hD b h4)).trans (h6 i j hi hj)) ih
 |bK cs b o vs h1 Mc h2 _ ih=>exact .bK cs b o vs (hs b h1) Mc (fun j hj=>(World.cell?_of_block (hD b h1)).trans (h2 j hj)) ih
 |agg cs vs f h1 h2 h3 _ ih=>exact .agg cs vs f h1 h2 h3 ih
 |fn f bZ vs g h1 h2 h3 _ ih=>exact .fn f bZ vs g h1 h2 h3 ih
theorem cq.frame (hD:∀b,D b->w'.heap[b]? =w.heap[b]?) (hs:∀b,D b->D' b) (hι:∀id B,ι id=some B->ι' id=some B) {a:AV} {v:Value} (h:cq P w D ι a v):cq P w' D' ι' a v:=by
 induction h with
 |eD a v h=>exact .eD a v (h.frame hD hs)
 |map id m B h1 h2=>exact .map id m B (hι _ _ h1) h2
 |si id c B h1 h2=>exact .si id c B (hι _ _ h1) h2
 |own id off len o cap B h1 h2 h3 h4 h5 h6=>exact .own id off len o cap B (hι _ _ h1) h2 h3 h4 h5 h6
 |ptr id i off B h1 h2=>exact .ptr id i off B (hι _ _ h1) h2
 |agg cs vs f h1 h2 h3 _ ih=>exact .agg cs vs f h1 h2 h3 ih
 |gN cs vs f h1 h2 _ ih=>exact .gN cs vs f h1 h2 ih
 |fn f bZ vs g h1 h2 h3 _ ih=>exact .fn f bZ vs g h1 h2 h3 ih
 |tb f bZ vs g h1 h2 h3 _ ih=>exact .tb f bZ vs g h1 h2 h3 ih
theorem cq.undef:cq P w D ι .undef Go.undef:=.gN [] #[] (fun _=>Go.undef) rfl (fun j hj=>by simp at hj) (fun j a h=>by simp at h)
theorem vm (c:K):cq P w D ι c.av c.val:=by
 cases c with
 |int k n=>exact .eD _ _ (.int k n)
 |bool b=>exact .eD _ _ (.bool b)
 |str l=>exact .eD _ _ (.str _)
 |cu=>exact .eD _ _ .cu
 |gx=>exact .eD _ _ .gx
 |jn=>exact .eD _ _ .jn
 |jD=>exact .eD _ _ .jD
theorem K.mb (c:K):c.av.cell=true:=by cases c<;>rfl
theorem yD {v:Value} {c:K} (h:Fp v=some c):v=c.val:=by
 unfold Fp at h
 split at h<;>simp at h<;>subst h<;>rfl
theorem cq.zX {a:AV} {v:Value} (h:cq P w D ι a v) (hc:a.cell=true):v.cells= #[v]/\(∀vs,v≠.agg vs)/\(∀vs,v≠.tuple vs):=by
 cases h with
 |eD a v h=>cases h<;>simp_all [AV.cell,Value.cells]
 |own=>simp[Value.cells]
 |map=>simp[Value.cells]
 |si=>simp[Value.cells]
 |ptr=>simp[Value.cells]
 |agg=>simp[AV.cell]at hc
 |gN=>simp[AV.cell]at hc
 |fn=>simp[Value.cells]
 |tb=>simp[Value.cells]
theorem cq.cells {a:AV} {v:Value} (h:cq P w D ι a v) (ha:a.cells.all AV.cell=true):v.cells.size=a.cells.length/\∃f:Nat->Value,(∀j,j<a.cells.length->v.cells[j]? =some (f j))/\∀j x,a.cells[j]? =some x->cq P w D ι x (f j):=by
 have one:∀(a:AV) (v:Value),a.cell=true->a.cells=[a]->cq P w D ι a v->v.cells.size=a.cells.length/\∃f:Nat->Value,(∀j,j<a.cells.length->v.cells[j]? =some (f j))/\∀j x,a.cells[j]? =some x->cq P w D ι x (f j):=by
  intro a v hc cR h
  obtain⟨h1,_,_⟩:=h.zX hc
  rw[h1,cR]
  refine⟨rfl,fun _=>v,fun j hj=>?_,fun j x hx=>?_⟩
  ·have:j=0:=by simp at hj;omega
   subst this;rfl
  ·cases j with
   |zero=>simp at hx;subst hx;exact h
   |succ j=>simp at hx
 cases h with
 |eD a v h=>
  cases h with
  |agg cs vs f h1 h2 h3 h4=>exact⟨h1,f,h3,fun j x hx=>.eD _ _ (h4 j x hx)⟩
  |_=>exact one _ _ rfl rfl (.eD _ _ (by constructor<;>assumption))
 |own id off len o cap B h1 h2 h3 h4 h5 h6=>exact one _ _ rfl rfl (.own id off len o cap B h1 h2 h3 h4 h5 h6)
 |ptr id i off B h1 h2=>exact one _ _ rfl rfl (.ptr id i off B h1 h2)
 |map id m B h1 h2=>exact one _ _ rfl rfl (.map id m B h1 h2)
 |si id c B h1 h2=>exact one _ _ rfl rfl (.si id c B h1 h2)
 |agg cs vs f h1 h2 h3 h4=>exact⟨h1,f,h3,h4⟩
 |gN cs vs f h1 h2 h3=>simp[AV.cells,AV.cell]at ha
 |fn f bZ vs g h1 h2 h3 h4=>exact one _ _ rfl rfl (.fn f bZ vs g h1 h2 h3 h4)
 |tb f bZ vs g h1 h2 h3 h4=>exact one _ _ rfl rfl (.tb f bZ vs g h1 h2 h3 h4)
structure k6 (P:Program) (w:World) (D:Nat->Prop) (ι:Names) (B:re) (r:Row):Prop where
 sz:B.sz=r.sz
 wY:∃cells T,w.heap[B.b]? =some (.cells cells T (0,0))/\cells.size=B.C
 fits:r.rows.length*r.sz<=B.C
 len:∀cs∈r.rows,cs.length=r.sz
 flat:∀cs∈r.rows,∀a∈cs,a.cell=true
 at_:∀i j cs a,r.rows[i]? =some cs->cs[j]? =some a->∃v,w.cell? ⟨B.b,i*r.sz+j,none⟩=some v/\cq P w D ι a v
def Jn (es:Array MapEntry) (clock:Nat):Prop:=(∀x∈es.toList,x.born<clock)/\(es.toList.map (·.born)).Nodup
def KT (P:Program) (w:World) (D:Nat->Prop) (ι:Names) (B:re) (m:MK) (r:Row):Prop:=
 ∃(es:Array MapEntry) (clock:Nat),w.heap[B.b]? =some (.map es clock)/\es.size=r.rows.length/\((∀cs∈r.rows,cs.length=m.ks+1)/\Jn es clock)/\
  ∀(i:Nat) (cs:List AV),r.rows[i]? =some cs->∃(e:MapEntry) (kv vv:AV),es[i]? =some e/\part m.ka m.ks cs=some kv/\cs[m.ks]? =some vv/\cq P w D ι kv e.key/\cq P w D ι vv e.val
def Gu (P:Program) (w:World) (D:Nat->Prop) (ι:Names) (B:re) (c:Nat) (r:Row):Prop:=
 ∃(buf:Array Value) (s q:Nat),w.heap[B.b]? =some (.chan c buf false s q false)/\buf.size=r.rows.length/\
  ∀(i:Nat) (cs:List AV),r.rows[i]? =some cs->∃(a:AV) (u:Value),cs=[a]/\buf[i]? =some u/\cq P w D ι a u
structure gV (P:Program) (w:World) (D:Nat->Prop) (ι:Names) (B:re) (r:Row):Prop where
 sz:B.sz=r.sz
 flat:∀cs∈r.rows,∀a∈cs,a.cell=true
 row:B.k=none->k6 P w D ι B r
 map:∀m,B.k=some (.map m)->r.sz=m.nv/\KT P w D ι B m r
 chan:∀c,B.k=some (.chan c)->r.sz=pB+c/\Gu P w D ι B c r
theorem k6.obj {B:re} {r:Row} (R:k6 P w D ι B r) (h:B.k=none):gV P w D ι B r:=⟨R.sz,R.flat,fun _=>R,fun m hm=>(by rw[h]at hm;cases hm),fun m hm=>by rw[h]at hm;cases hm⟩
theorem gV.flag {B:re} {r:Row} (R:gV P w D ι B r) (b:Bool):gV P w D ι B {r with w:=b}:=⟨R.sz,R.flat,fun h=>⟨R.sz,(R.row h).wY,(R.row h).fits,(R.row h).len,R.flat,(R.row h).at_⟩,R.map,R.chan⟩
theorem gV.cells {B:re} {r:Row} (R:gV P w D ι B r) (h:r.sz<yQ):B.k=none:=by
 cases hk:B.k with
 |none=>rfl
 |some m=>
  cases m with
  |map m=>
   have h1:=(R.map m hk).1
   unfold MK.nv at h1
   omega
  |chan c=>
   have h1:=(R.chan c hk).1
   unfold pB at h1
   unfold yQ at h
   omega
theorem gV.Kk {B:re} {r:Row} (R:gV P w D ι B r) {c:Array Value} {T:TypeId} {z:Nat×Nat} (h:w.heap[B.b]? =some (.cells c T z)):B.k=none:=by
 cases hk:B.k with
 |none=>rfl
 |some m=>
  cases m with
  |map m=>obtain⟨_,es,c,h3,_⟩:=R.map m hk;rw[h]at h3;cases h3
  |chan c=>obtain⟨_,buf,s,q,h3,_⟩:=R.chan c hk;rw[h]at h3;cases h3
theorem gV.lt {B:re} {r:Row} (R:gV P w D ι B r):B.b<w.heap.size:=by
 cases h:B.k with
 |none=>
  obtain⟨c,T,h3,_⟩:=(R.row h).wY
  exact(Array.getElem?_eq_some_iff.1 h3).1
 |some m=>
  cases m with
  |map m=>obtain⟨_,es,c,h3,_⟩:=R.map m h;exact(Array.getElem?_eq_some_iff.1 h3).1
  |chan c=>obtain⟨_,buf,s,q,h3,_⟩:=R.chan c h;exact(Array.getElem?_eq_some_iff.1 h3).1
structure fV (P:Program) (hs:Nat) (D:Nat->Prop) (ι:Names) (g:Rows) (w:World):Prop where
 lo:hs<=w.heap.size
 dead:∀b,D b->b<w.heap.size
 row:∀id r,g id=some r->∃B,ι id=some B/\gV P w D ι B r/\(r.w=true->hs<=B.b)/\(r.w=true->¬D B.b)
 inj:∀id jR r r' B B',g id=some r->g jR=some r'->r.w=true->ι id=some B->ι jR=some B'->B.b=B'.b->id=jR
def Used (ι:Names) (n:Nat) (U:Nat->Prop):Prop:=∀id,ι id≠none->id.aW<n∨(id.aW=n/\U id.site)
structure Step (hs:Nat) (D:Nat->Prop) (ι:Names) (w:World) (D':Nat->Prop) (ι':Names) (w':World):Prop where
 below:Below hs w w'
 oZ:∀b,D b->w'.heap[b]? =w.heap[b]?
 dead:∀b,D b->D' b
 names:∀id B,ι id=some B->ι' id=some B
 new:∀b,D' b->D b∨hs<=b
theorem Step.refl (hs:Nat) (D:Nat->Prop) (ι:Names) (w:World):Step hs D ι w D ι w:=⟨Below.refl _ _,fun _ _=>rfl,fun _ h=>h,fun _ _ h=>h,fun _ h=>.inl h⟩
theorem Step.trans {hs:Nat} {D D' D'':Nat->Prop} {ι ι' Qh:Names} {w w' Ji:World} (h:Step hs D ι w D' ι' w') (k:Step hs D' ι' w' D'' Qh Ji):Step hs D ι w D'' Qh Ji:=
 ⟨h.below.trans k.below,fun b hb=>(k.oZ b (h.dead b hb)).trans (h.oZ b hb),fun b hb=>k.dead b (h.dead b hb),fun id B hB=>k.names id B (h.names id B hB),fun b hb=>by
  rcases k.new b hb with hb|hb
  ·exact h.new b hb
  ·exact .inr hb⟩
theorem Step.rep {hs:Nat} {D D':Nat->Prop} {ι ι':Names} {w w':World} (h:Step hs D ι w D' ι' w') {a:AV} {v:Value} (hr:cq P w D ι a v):cq P w' D' ι' a v:=hr.frame h.oZ h.dead h.names
theorem cV {k n} {v:Value} (h:cq P w D ι (.int k n) v):v=.int k n:=by
 cases h with
 |eD _ _ h=>cases h;rfl
theorem eS {b} {v:Value} (h:cq P w D ι (.bool b) v):v=.bool b:=by
 cases h with
 |eD _ _ h=>cases h;rfl
theorem fm {s} {v:Value} (h:cq P w D ι (.str s) v):v=.string s:=by
 cases h with
 |eD _ _ h=>cases h;rfl
theorem jT {v:Value} (h:cq P w D ι .cu v):v=.slice none 0 0:=by
 cases h with
 |eD _ _ h=>cases h;rfl
theorem vn {v:Value} (h:cq P w D ι .jn v):v=.nilFunc:=by
 cases h with
 |eD _ _ h=>cases h;rfl
theorem jg {cs} {v:Value} (h:cq P w D ι (.agg cs) v):∃(vs:Array Value) (f:Nat->Value),v=.agg vs/\vs.size=cs.length/\(∀a∈cs,a.cell=true)/\(∀j,j<cs.length->vs[j]? =some (f j))/\∀j a,cs[j]? =some a->cq P w D ι a (f j):=by
 cases h with
 |eD _ _ h=>
  cases h with
  |agg cs vs f h1 h2 h3 h4=>exact⟨vs,f,rfl,h1,h2,h3,fun j a h=>.eD _ _ (h4 j a h)⟩
 |agg cs vs f h1 h2 h3 h4=>exact⟨vs,f,rfl,h1,h2,h3,h4⟩
theorem y7 {cs} {v:Value} (h:cq P w D ι (.gN cs) v):∃(vs:Array Value) (f:Nat->Value),v=.tuple vs/\vs.size=cs.length/\(∀j,j<cs.length->vs[j]? =some (f j))/\∀j a,cs[j]? =some a->cq P w D ι a (f j):=by
 cases h with
 |eD _ _ h=>cases h
 |gN cs vs f h1 h2 h3=>exact⟨vs,f,rfl,h1,h2,h3⟩
theorem y6 {f bZ} {v:Value} (h:cq P w D ι (.fn f bZ) v):∃(vs:Array Value) (g:Nat->Value),v=.func (.func f) #[] vs/\fE P f=true/\vs.size=bZ.length/\(∀j,j<bZ.length->vs[j]? =some (g j))/\∀j a,bZ[j]? =some a->cq P w D ι a (g j):=by
 cases h with
 |eD _ _ h=>
  cases h with
  |fn f bZ vs g h1 h2 h3 h4=>exact⟨vs,g,rfl,h1,h2,h3,fun j a h=>.eD _ _ (h4 j a h)⟩
 |fn f bZ vs g h1 h2 h3 h4=>exact⟨vs,g,rfl,h1,h2,h3,h4⟩
theorem H8 {v:Value} (h:cq P w D ι .gx v):v=.pointer none:=by
 cases h with
 |eD _ _ h=>cases h;rfl
theorem A8 {v:Value} (h:cq P w D ι .jD v):v=.map none:=by
 cases h with
 |eD _ _ h=>cases h;rfl
theorem Ky {f bZ} {v:Value} (h:cq P w D ι (.tb f bZ) v):∃(vs:Array Value) (g:Nat->Value),v=.func (.func f) vs #[]/\fE P f=true/\vs.size=bZ.length/\(∀j,j<bZ.length->vs[j]? =some (g j))/\∀j a,bZ[j]? =some a->cq P w D ι a (g j):=by
 cases h with
 |eD _ _ h=>cases h
 |tb f bZ vs g h1 h2 h3 h4=>exact⟨vs,g,rfl,h1,h2,h3,h4⟩
theorem iF {id off len} {v:Value} (h:cq P w D ι (.own id off len) v):∃o cap B,v=.slice (some ⟨B.b,o,none⟩) len cap/\ι id=some B/\len<=cap/\(cap=0∨o=off*B.sz)/\(off+cap)*B.sz<=B.C/\cap<=maxLen/\B.k=none:=by
 cases h with
 |eD _ _ h=>cases h
 |own id off len o cap B h1 h2 h3 h4 h5 h6=>exact⟨o,cap,B,rfl,h1,h3,h4,h5,h6,h2⟩
theorem iq {id i off} {v:Value} (h:cq P w D ι (.ptr id i off) v):∃B,v=.pointer (some ⟨B.b,i*B.sz+off,none⟩)/\ι id=some B/\B.k=none:=by
 cases h with
 |eD _ _ h=>cases h
 |ptr id i off B h1 h2=>exact⟨B,rfl,h1,h2⟩
theorem Kw {id} {v:Value} (h:cq P w D ι (.si id) v):∃B c,v=.chan (some B.b)/\ι id=some B/\B.k=some (.chan c):=by
 cases h with
 |eD _ _ h=>cases h
 |si id c B h1 h2=>exact⟨B,c,rfl,h1,h2⟩
theorem Ek {id m} {v:Value} (h:cq P w D ι (.map id m) v):∃B,v=.map (some B.b)/\ι id=some B/\B.k=some (.map m):=by
 cases h with
 |eD _ _ h=>cases h
 |map id m B h1 h2=>exact⟨B,rfl,h1,h2⟩
theorem kF {cs} {v:Value} (h:cq P w D ι (.bK cs) v):∃b o,∃vs:Nat->Value,v=.pointer (some ⟨b,o,none⟩)/\D b/\(∀a∈cs,a.cell=true)/\(∀j,j<cs.length->w.cell? ⟨b,o+j,none⟩=some (vs j))/\∀j a,cs[j]? =some a->jr P w D a (vs j):=by
 cases h with
 |eD _ _ h=>
  cases h with
  |bK cs b o vs h1 h2 h3 h4=>exact⟨b,o,vs,rfl,h1,h2,h3,h4⟩
theorem vp {rows} {v:Value} (h:cq P w D ι (.sl rows) v):∃A c,v=.slice A rows.length c/\rows.length<=c/\c<=maxLen/\
  (rows=[]∨∃b o sz,∃vs:Nat->Nat->Value,A=some ⟨b,o,none⟩/\D b/\(∀cs∈rows,cs.length=sz)/\(∀cs∈rows,∀a∈cs,a.cell=true)/\
   (∀i j,i<rows.length->j<sz->w.cell? ⟨b,o+(i*sz+j),none⟩=some (vs i j))/\∀i j cs a,rows[i]? =some cs->cs[j]? =some a->jr P w D a (vs i j)):=by
 cases h with
 |eD _ _ h=>
  cases h with
  |C9 a c h=>exact⟨a,c,rfl,Nat.zero_le _,h,.inl rfl⟩
  |sl rows b o n c sz vs h1 h2 h3 h4 h5 h5' h6 h7=>subst h1;exact⟨_,c,rfl,h2,h3,.inr ⟨b,o,sz,vs,rfl,h4,h5,h5',h6,h7⟩⟩
inductive dV:AV->Prop
 |int (k n):dV (.int k n)
 |bool (b):dV (.bool b)
 |str (s):dV (.str s)
 |cu:dV .cu
 |gx:dV .gx
 |jn:dV .jn
 |sl (rows):rows.length<=maxLen->(∀cs∈rows,∀a∈cs,dV a)->dV (.sl rows)
 |own (id off len):dV (.own id off len)
 |ptr (id i off):dV (.ptr id i off)
 |bK (cs):(∀a∈cs,dV a)->dV (.bK cs)
 |agg (cs):(∀a∈cs,dV a)->dV (.agg cs)
 |gN (cs):(∀a∈cs,dV a)->dV (.gN cs)
 |fn (f bZ):(∀a∈bZ,dV a)->dV (.fn f bZ)
 |map (id m):dV (.map id m)
 |si (id):dV (.si id)
 |jD:dV .jD
 |tb (f bZ):(∀a∈bZ,dV a)->dV (.tb f bZ)
theorem dV.len {rows:List (List AV)} (h:dV (.sl rows)):rows.length<=9223372036854775807:=by
 cases h with
 |sl _ h _=>unfold maxLen at h;omega
theorem dV.cell {rows:List (List AV)} (h:dV (.sl rows)) {cs:List AV} (hc:cs∈rows) {a:AV} (ha:a∈cs):dV a:=by
 cases h with
 |sl _ _ h=>exact h cs hc a ha
theorem dV.LL {cs:List AV} (h:dV (.agg cs)) {a:AV} (ha:a∈cs):dV a:=by
 cases h with
 |agg _ h=>exact h a ha
theorem dV.AH {cs:List AV} (h:dV (.bK cs)) {a:AV} (ha:a∈cs):dV a:=by
 cases h with
 |bK _ h=>exact h a ha
theorem nV {l:List AV} {p:AV->Prop} (h:∀(j:Nat) (a:AV),l[j]? =some a->p a):∀a∈l,p a:=fun a ha=>by
 obtain⟨j,hj,rfl⟩:=List.getElem_of_mem ha
 exact h j _ (List.getElem?_eq_getElem hj)
theorem jr.HK {a:AV} {v:Value} (h:jr P w D a v):dV a:=by
 induction h with
 |int k n=>exact .int k n
 |bool b=>exact .bool b
 |str s=>exact .str s
 |cu=>exact .cu
 |gx=>exact .gx
 |jn=>exact .jn
 |jD=>exact .jD
 |C9 a c h=>exact .sl [] (Nat.zero_le _) (fun cs h=>by cases h)
 |sl rows b o n c sz vs h1 h2 h3 h4 h5 h5' h6 _ ih=>
  exact .sl rows (by omega) fun cs cR a ha=>by
   obtain⟨i,hi,rfl⟩:=List.getElem_of_mem cR
   obtain⟨j,hj,rfl⟩:=List.getElem_of_mem ha
   exact ih i j _ _ (List.getElem?_eq_getElem hi) (List.getElem?_eq_getElem hj)
 |bK cs b o vs h1 Mc h2 _ ih=>exact .bK cs (nV ih)
 |agg cs vs f h1 h2 h3 _ ih=>exact .agg cs (nV ih)
 |fn f bZ vs g h1 h2 h3 _ ih=>exact .fn f bZ (nV ih)
theorem cq.HK {a:AV} {v:Value} (h:cq P w D ι a v):dV a:=by
 induction h with
 |eD a v h=>exact h.HK
 |own id off len o cap B=>exact .own _ _ _
 |ptr id i off B=>exact .ptr _ _ _
 |map id m B=>exact .map _ _
 |si id c B=>exact .si _
 |agg cs vs f h1 h2 h3 _ ih=>exact .agg cs (nV ih)
 |gN cs vs f h1 h2 _ ih=>exact .gN cs (nV ih)
 |fn f bZ vs g h1 h2 h3 _ ih=>exact .fn f bZ (nV ih)
 |tb f bZ vs g h1 h2 h3 _ ih=>exact .tb f bZ (nV ih)
end Go.Proofs.YtgoelphibofcmaaGreat.V

namespace Go.Proofs.YtgoelphibofcmaaGreat.V
open Go.RowKit
variable {P:Program} {w w':World} {D D':Nat->Prop} {ι ι':Names}
def bw (P:Program) (w:World) (D:Nat->Prop) (ι:Names) (env:Env) (a:Act):Prop:=∀t,cq P w D ι (env t) (a.tmps.getD t undef)
theorem qy {vs:List Value} {cs:List K} (h:vs.mapM Fp=some cs):cs.length=vs.length/\∀(j:Nat) (c:K),cs[j]? =some c->vs[j]? =some c.val:=by
 induction vs generalizing cs with
 |nil=>simp at h;subst h;simp
 |cons v r ih=>
  simp only[List.mapM_cons,Option.bind_eq_bind,Option.bind_eq_some_iff]at h
  obtain⟨c,hc,pb,cR,h⟩:=h
  simp at h;subst h
  obtain⟨h1,h2⟩:=ih cR
  refine⟨by simp[h1],fun j d hd=>?_⟩
  cases j with
  |zero=>simp at hd ⊢;subst hd;exact yD hc
  |succ j=>simp at hd ⊢;exact h2 j d hd
theorem SK {vs:List Value} {cs:List K} (h:vs.mapM Fp=some cs):cq P w D ι (.agg (cs.map K.av)) (.agg vs.toArray):=by
 obtain⟨h1,h2⟩:=qy h
 refine .agg _ _ (fun j=>vs.getD j undef) (by simp[h1]) (fun a ha=>?_) (fun j hj=>?_) (fun j a ha=>?_)
 ·obtain⟨c,_,rfl⟩:=List.mem_map.1 ha;exact c.mb
 ·simp at hj;simp[List.getElem?_eq_getElem (show j<vs.length by omega)]
 ·simp only[List.getElem?_map,Option.map_eq_some_iff]at ha
  obtain⟨c,hc,rfl⟩:=ha
  rw[List.getD_eq_getElem?_getD,h2 j c hc];exact vm c
theorem cF {env:Env} {a:Act} {x:Operand} {y:O} (E:bw P w D ι env a) (h:cO P x=some y):cq P w D ι (cE env y) (a.eval x):=by
 unfold cO at h
 split at h
 ·simp at h;subst h;exact E _
 ·simp only[Option.map_eq_some_iff]at h
  obtain⟨cs,cR,rfl⟩:=h
  have:=SK (P:=P) (w:=w) (D:=D) (ι:=ι) cR
  simpa[Act.eval,cE]using this
 ·simp only[Option.map_eq_some_iff]at h
  obtain⟨c,hc,rfl⟩:=h
  simp only[Act.eval,cE]
  rw[yD hc];exact vm c
 ·simp at h
 ·split at h
  ·rename_i hc
   simp at h;subst h
   simp only[Act.eval,cE]
   exact .fn _ _ _ (fun _=>undef) hc rfl (fun j hj=>by simp at hj) (fun j a h=>by simp at h)
  ·simp at h
def nB (P:Program) (a:Act) (o:Oper) (w:World) (D:Nat->Prop) (ι:Names) (v:AV):Prop:=∃u,(execOp a.eval o).run P w=.ok (.value u) w/\cq P w D ι v u
section
variable {g:Rows} {hs:Nat} {env:Env} {a:Act} {o:Oper} {id:Id} {v:AV}
theorem Lz {x:Operand} {y:O} (E:bw P w D ι env a) (ho:o.op=.move x∨o.op=.assign x) (hx:cO P x=some y):nB P a o w D ι (cE env y):=by
 refine⟨a.eval x,?_,cF E hx⟩
 rcases ho with h|h<;>simp[execOp,h,go_sem]
theorem NR {c x y:Operand} {c' x' y':O} (E:bw P w D ι env a) (ho:o.op=.pick c x y) (hc:cO P c=some c') (hx:cO P x=some x') (hy:cO P y=some y') (hv:dp (cE env c') (cE env x') (cE env y')=some v):nB P a o w D ι v:=by
 unfold dp at hv
 split at hv
 ·rename_i b hb
  simp at hv;subst hv
  have h1:=eS (hb▸cF E hc)
  refine⟨if b then a.eval x else a.eval y,by simp only[execOp,ho,h1,asBool];rfl,?_⟩
  cases b
  ·exact cF E hy
  ·exact cF E hx
 ·simp at hv
theorem P6 {op:BinOp} {x y:Operand} {x' y':O} {t yt:TypeId} (E:bw P w D ι env a) (ho:o.op=.binOp op t x y yt) (he:op≠.eql) (hn:op≠.neq) (hx:cO P x=some x') (hy:cO P y=some y') (hv:eG op (cE env x') (cE env y')=some v):nB P a o w D ι v:=by
 unfold eG at hv
 split at hv
 ·rename_i k n k' m hb rG
  split at hv
  ·rename_i hk
   subst hk
   have h1:=cV (hb▸cF E hx)
   have h2:=cV (rG▸cF E hy)
   have key:∀u,(binOp op t (.int k n) (.int k m)).run P w=.ok u w->(execOp a.eval o).run P w=.ok (.value u) w:=fun u hu=>by
    have e0:eqGuard op t x y (.int k n) (.int k m)=pure ():=by unfold eqGuard;cases op<;>rfl
    simp only[execOp,ho,h1,h2,e0]
    simp[go_sem,hu]
   cases op<;>simp only[dY]at hv<;>(try(simp at hv;done))<;>(try split at hv)<;>(try(simp at hv;done))<;>simp only[Option.some.injEq]at hv<;>subst hv<;>
    (refine⟨_,key _ (by simp only[binOp,ne_eq,not_true_eq_false,if_false,Op.intArith,Op.intDiv,Op.intBits,Op.intCmp, *];rfl),?_⟩)<;>
    first
     |exact .eD _ _ (.int _ _)
     |exact .eD _ _ (.bool _)
  ·simp at hv
 ·simp at hv
theorem NC {op:BinOp} {x y:Operand} {x' y':O} {t yt:TypeId} (E:bw P w D ι env a) (ho:o.op=.binOp op t x y yt) (he:op≠.eql) (hn:op≠.neq) (hx:cO P x=some x') (hy:cO P y=some y') (hv:dq op (cE env x') (cE env y')=some v):nB P a o w D ι v:=by
 unfold dq at hv
 split at hv
 ·rename_i n m hb rG
  have h1:=fm (hb▸cF E hx)
  have h2:=fm (rG▸cF E hy)
  cases op<;>simp only[eT]at hv<;>(try(simp at hv;done))
  case add=>
   split at hv
   ·rename_i hl
    simp only[Option.some.injEq]at hv;subst hv
    exact⟨_,by simp only[execOp,ho,h1,h2];simp[eqGuard,binOp,go_sem];exact hl,.eD _ _ (.str _)⟩
   ·simp at hv
  all_goals
   simp only[Option.some.injEq]at hv;subst hv
   exact⟨_,by simp only[execOp,ho,h1,h2];simp[eqGuard,binOp,Op.stringOp,go_sem],.eD _ _ (.bool _)⟩
 ·simp at hv
theorem Eo (n m:ByteArray):(n.toList==m.toList)=decide (n=m):=by
 rw[ByteArray.toList_eq,ByteArray.toList_eq]
 by_cases h:n=m
 ·subst h;simp
 ·have:n.data.toList≠m.data.toList:=fun he=>h (ByteArray.ext (Array.ext' he))
  rw[decide_eq_false h];exact beq_eq_false_iff_ne.2 this
theorem oG {t:TypeId} (h:e7 P t=some .tB):P.underlying t=some .bool:=by unfold e7 at h;split at h<;>simp_all
theorem oH {t:TypeId} (h:e7 P t=some .tI):∃k,P.underlying t=some (.int k):=by unfold e7 at h;split at h<;>simp_all
theorem oI {t:TypeId} (h:e7 P t=some .tS):P.underlying t=some .string:=by unfold e7 at h;split at h<;>simp_all
theorem qJ {d:Nat} {t:TypeId} {s:TS} {x y:AV} {u u':Value} {b:Bool} (hx:cq P w D ι x u) (hy:cq P w D ι y u') (hv:gP s x y=some b) (ht:e7 P t=some s):(Op.equalIn (d+1) t u u').run P w=.ok b w:=by
 unfold gP at hv
 split at hv
 ·rename_i k n k' m
  split at hv
  ·rename_i hk
   subst hk
   simp at hv;subst hv
   obtain⟨q,hq⟩:=oH ht
   rw[cV hx,cV hy,run_equalIn_int _ _ _ _ _ _ _ hq];rfl
  ·simp at hv
 ·simp at hv;subst hv
  rw[eS hx,eS hy,run_equalIn_bool' _ _ _ _ _ (oG ht)]
 ·simp at hv;subst hv
  rw[fm hx,fm hy,run_equalIn_string _ _ _ _ _ (oI ht),Eo]
 ·simp at hv
def fa (P:Program) (w:World) (D:Nat->Prop) (ι:Names) (xs:List AV) (vs:Array Value):Prop:=vs.size=xs.length/\∀(j:Nat) (a:AV),xs[j]? =some a->∃u,vs[j]? =some u/\cq P w D ι a u
theorem fa.part {xs:List AV} {vs:Array Value} (h:fa P w D ι xs vs) (off n:Nat) (hn:off+n<=xs.length):fa P w D ι ((xs.drop off).take n) (vs.extract off (off+n)):=by
 refine⟨by simp[h.1];omega,fun j a ha=>?_⟩
 rw[List.getElem?_take]at ha
 split at ha
 ·rename_i hj
  rw[List.getElem?_drop]at ha
  obtain⟨u,h1,h2⟩:=h.2 _ _ ha
  refine⟨u,?_,h2⟩
  rw[Array.getElem?_extract]
  rw[if_pos (by rw[h.1];omega),h1]
 ·simp at ha
theorem qo:∀{ts:List TS} {xs ys:List AV} {b:Bool},fx ts xs ys=some b->xs.length=ts.length/\ys.length=ts.length
 |[],[],[],_,_=>⟨rfl,rfl⟩
 |t::ts,x::xs,y::ys,b,h=>by
  unfold fx at h
  split at h
  ·rename_i c d h1 h2
   have:=qo h2
   simp[this.1,this.2]
  ·simp at h
 |[],[],_::_,_,h=>by simp[fx]at h
 |[],_::_,_,_,h=>by simp[fx]at h
 |_::_,[],_,_,h=>by simp[fx]at h
 |_::_,_::_,[],_,h=>by simp[fx]at h
theorem DM:∀{ts us:List TS} {xs ys:List AV} {b:Bool},fx (ts++us) xs ys=some b->∃c d,fx ts (xs.take ts.length) (ys.take ts.length)=some c/\fx us (xs.drop ts.length) (ys.drop ts.length)=some d/\b=(c&&d)
 |[],us,xs,ys,b,h=>⟨true,b,by simp[fx],by simpa using h,by simp⟩
 |t::ts,us,x::xs,y::ys,b,h=>by
  simp only[List.cons_append]at h
  unfold fx at h
  split at h
  ·rename_i c d h1 h2
   obtain⟨c',d',h3,h4,rfl⟩:=DM h2
   simp at h;subst h
   exact⟨c&&c',d',by simp[fx,h1,h3],by simpa using h4,by simp[Bool.and_assoc]⟩
  ·simp at h
 |t::ts,us,[],ys,b,h=>by simp[fx]at h
 |t::ts,us,x::xs,[],b,h=>by simp[fx]at h
theorem lU {t:TypeId} {vs:Array Value} {off:Nat} {u:Value} (ha:nk P t=some false) (hu:vs[off]? =some u):(Go.part t vs off).run P w=.ok u w:=by
 unfold nk at ha
 have hi:(isAgg t).run P w=.ok false w:=by
  split at ha<;>simp at ha
  rename_i d h1 h2 hd
  simp only[isAgg,Sem.run_bind,run_underlying hd,Result.andThen_ok]
  cases d<;>simp_all
 simp[Go.part,hi,hu]
theorem rV {t:TypeId} {b:Bool} (ha:nk P t=some b):(isAgg t).run P w=.ok b w:=by
 unfold nk at ha
 split at ha<;>simp at ha<;>subst ha<;>rename_i hd<;>simp only[isAgg,Sem.run_bind,run_underlying hd,Result.andThen_ok]<;>(try simp)
theorem run_sizeOf {t:TypeId} {n:Nat} (h:dG P t=some n):(sizeOf t).run P w=.ok n w:=by
 unfold dG at h
 simp only[Option.map_eq_some_iff]at h
 obtain⟨i,hi,rfl⟩:=h
 simp[sizeOf,typeInfo,hi]
theorem oF {t:TypeId} {vs:Array Value} {off n:Nat} (ha:nk P t=some true) (hn:dG P t=some n):(Go.part t vs off).run P w=.ok (.agg (vs.extract off (off+n))) w:=by
 simp[Go.part,rV ha,run_sizeOf hn]
theorem G8 (d off:Nat):dW P (d+1) off []=some []:=rfl
theorem xc (d off:Nat) (f:Field) (r:List Field):dW P (d+1) off (f::r)=(if f.offset=off/\f.name≠ "_" then
   match e7 P f.type with
   |some t=>if nk P f.type=some false then(dW P (d+1) (off+1) r).map (t::·)else none
   |none=>match P.underlying f.type with
    |some (.struct fs)=>if !P.stoodInHeld f.type then match dW P d 0 fs.toList with
     |some ts=>if dG P f.type=some ts.length/\ts≠[]then(dW P (d+1) (off+ts.length) r).map (ts++·)else none
     |none=>none else none
    |_=>none
  else none):=rfl
theorem qI:∀(d:Nat) (fs:List Field) (off:Nat) (ts:List TS),dW P d off fs=some ts->∀(N:Nat) (_:d<=N) (xs ys:List AV) (vs us:Array Value) (b:Bool),fa P w D ι xs vs->fa P w D ι ys us->
  fx ts ((xs.drop off).take ts.length) ((ys.drop off).take ts.length)=some b->(Op.eqFields (N+1) vs us fs).run P w=.ok b w:=by
 intro d
 induction d with
 |zero=>
  intro fs off ts hf N _ xs ys vs us b _ _ he
  cases fs with
  |nil=>simp[dW]at hf;subst hf;simp[fx]at he;subst he;simp[Op.eqFields]
  |cons f r=>simp[dW]at hf
 |succ d ihd=>
  intro fs
  induction fs with
  |nil=>
   intro off ts hf N _ xs ys vs us b _ _ he
   rw[G8]at hf;simp at hf;subst hf;simp[fx]at he;subst he;simp[Op.eqFields]
  |cons f r ih=>
   intro off ts hf N hN xs ys vs us b hx hy he
   rw[xc]at hf
   split at hf
   ·rename_i hcond
    obtain⟨ho,fY⟩:=hcond
    split at hf
    ·rename_i s hs
     split at hf
     ·rename_i tr
      simp only[Option.map_eq_some_iff]at hf
      obtain⟨Lx,hr,rfl⟩:=hf
      obtain⟨l1,l2⟩:=qo he
      simp only[List.length_cons,List.length_take,List.length_drop]at l1 l2
      have s9:off<xs.length:=by omega
      have hyo:off<ys.length:=by omega
      rw[List.drop_eq_getElem_cons s9,List.drop_eq_getElem_cons hyo,List.length_cons,List.take_succ_cons,List.take_succ_cons]at he
      unfold fx at he
      split at he
      ·rename_i c d' h1 h2
       simp at he;subst he
       obtain⟨u,hu,ru⟩:=hx.2 off _ (List.getElem?_eq_getElem s9)
       obtain⟨u',D7,ru'⟩:=hy.2 off _ (List.getElem?_eq_getElem hyo)
       have:=ih (off+1) Lx hr N hN xs ys vs us d' hx hy h2
       simp only[Op.eqFields,if_pos fY,Sem.run_bind,ho,lU tr hu,lU tr D7,Result.andThen_ok,qJ ru ru' h1 hs,Sem.run_ite]
       cases c<;>simp[this]
      ·simp at he
     ·simp at hf
    ·split at hf
     ·rename_i fs' qp
      split at hf
      ·rename_i cK
       split at hf
       ·rename_i ts1 hts1
        split at hf
        ·rename_i e5
         simp only[Option.map_eq_some_iff]at hf
         obtain⟨Lx,hr,rfl⟩:=hf
         obtain⟨c,d',h1,h2,rfl⟩:=DM he
         obtain⟨l1,l2⟩:=qo he
         simp only[List.length_append,List.length_take,List.length_drop]at l1 l2
         have tr:nk P f.type=some true:=by simp[nk,qp]
         have kW:0<ts1.length:=List.length_pos_iff.2 e5.2
         have Ll:off+ts1.length<=xs.length:=by omega
         have hy1:off+ts1.length<=ys.length:=by omega
         rw[List.drop_take,List.drop_drop,List.drop_take,List.drop_drop]at h2
         rw[List.take_take,List.take_take]at h1
         simp only[List.length_append]at h1 h2
         rw[Nat.min_eq_left (by omega)]at h1
         have e2:ts1.length+Lx.length-ts1.length=Lx.length:=by omega
         rw[e2]at h2
         have:=ih (off+ts1.length) Lx hr N hN xs ys vs us d' hx hy h2
         have fA:=ihd fs'.toList 0 ts1 hts1 (N-1) (by omega) _ _ _ _ c (hx.part off ts1.length Ll) (hy.part off ts1.length hy1) (by simpa[List.take_take]using h1)
         have hN':N-1+1=N:=by omega
         rw[hN']at fA
         have K7:P.fieldsOf f.type=fs':=by simp[Program.fieldsOf,qp]
         simp only[Op.eqFields,if_pos fY,Sem.run_bind,ho,oF tr e5.1,Result.andThen_ok,Sem.run_ite]
         rw[run_equalIn_struct w N f.type _ _ (by rw[K7];exact qp) (by simpa using cK),K7,fA]
         cases c<;>simp[this]
        ·simp at hf
       ·simp at hf
      ·simp at hf
     ·simp at hf
   ·simp at hf
theorem Qa {x y:Operand} {x' y':O} {t yt:TypeId} {neg:Bool} {s:TS} {b:Bool} (E:bw P w D ι env a) (ho:o.op=.binOp (if neg then .neq else .eql) t x y yt) (hs:e7 P t=some s) (hx:cO P x=some x') (hy:cO P y=some y')
  (hv:gP s (cE env x') (cE env y')=some b):nB P a o w D ι (.bool (dE neg b)):=by
 have rx:=cF E hx
 have ry:=cF E hy
 refine⟨.bool (dE neg b),?_,.eD _ _ (.bool _)⟩
 have e0:(eqGuard (if neg then .neq else .eql) t x y (a.eval x) (a.eval y)).run P w=.ok () w:=by
  unfold gP at hv
  split at hv
  ·rename_i k n k' m h1 h2
   rw[h1]at rx;rw[h2]at ry
   rw[cV rx,cV ry];unfold eqGuard;cases neg<;>simp
  ·rename_i n m h1 h2
   rw[h1]at rx;rw[h2]at ry
   rw[eS rx,eS ry];unfold eqGuard;cases neg<;>simp
  ·rename_i n m h1 h2
   rw[h1]at rx;rw[h2]at ry
   rw[fm rx,fm ry];unfold eqGuard;cases neg<;>simp
  ·simp at hv
 have e1:(binOp (if neg then .neq else .eql) t (a.eval x) (a.eval y)).run P w=.ok (.bool (dE neg b)) w:=by
  have q:=qJ (d:=9999) rx ry hv hs
  unfold gP at hv
  split at hv
  ·rename_i k n k' m h1 h2
   split at hv
   ·rename_i hk
    subst hk
    simp at hv;subst hv
    rw[h1]at rx;rw[h2]at ry
    rw[cV rx,cV ry]
    cases neg<;>simp only[binOp,ne_eq,not_true_eq_false,if_false,Op.intCmp,dE,if_true,Bool.false_eq_true]<;>simp[bne]<;>rfl
   ·simp at hv
  ·rename_i n m h1 h2
   rw[h1]at rx;rw[h2]at ry
   rw[eS rx,eS ry]at q ⊢
   cases neg<;>simp only[binOp,dE,if_true,Bool.false_eq_true,if_false,Sem.run_bind]<;>simp[Op.equal,Op.maxDepth,q]
  ·rename_i n m h1 h2
   simp at hv;subst hv
   rw[h1]at rx;rw[h2]at ry
   rw[fm rx,fm ry]
   cases neg<;>simp[binOp,Op.stringOp,dE,Eo]
  ·simp at hv
 simp only[execOp,ho,Sem.run_bind,e0,e1,Result.andThen_ok,Sem.run_pure]
theorem P8 {x y:Operand} {x' y':O} {t yt:TypeId} {neg:Bool} {ts:List TS} {fs:Array Field} {xs ys:List AV} {b:Bool} (E:bw P w D ι env a) (ho:o.op=.binOp (if neg then .neq else .eql) t x y yt) (qp:P.underlying t=some (.struct fs)) (cK:P.stoodInHeld t=false) (JM:P.eqGuardType P.depth t=false)
  (wD:dW P 4 0 fs.toList=some ts) (hx:cO P x=some x') (hy:cO P y=some y') (h1:cE env x'=.agg xs) (h2:cE env y'=.agg ys)
  (hv:fx ts xs ys=some b):nB P a o w D ι (.bool (dE neg b)):=by
 obtain⟨vs,f,rx,n1,_,f1,r1⟩:=jg (h1▸cF E hx)
 obtain⟨us,f',ry,n2,_,f2,r2⟩:=jg (h2▸cF E hy)
 refine⟨.bool (dE neg b),?_,.eD _ _ (.bool _)⟩
 obtain⟨l1,l2⟩:=qo hv
 have L:∀(xs:List AV) (vs:Array Value) (f:Nat->Value),vs.size=xs.length->(∀j,j<xs.length->vs[j]? =some (f j))->(∀j a,xs[j]? =some a->cq P w D ι a (f j))->fa P w D ι xs vs:=fun xs vs f h1 h2 h3=>
  ⟨h1,fun j a ha=>⟨f j,h2 j (List.getElem?_eq_some_iff.1 ha).1,h3 j a ha⟩⟩
 have q:=qI (w:=w) 4 fs.toList 0 ts wD 9998 (by omega) xs ys vs us b (L _ _ _ n1 f1 r1) (L _ _ _ n2 f2 r2) (by simpa[List.take_of_length_le,l1,l2]using hv)
 have K7:P.fieldsOf t=fs:=by simp[Program.fieldsOf,qp]
 have q2:(Op.equal t (.agg vs) (.agg us)).run P w=.ok b w:=by
  unfold Op.equal
  rw[show Op.maxDepth=9999+1 from rfl,run_equalIn_struct w 9999 t _ _ (by rw[K7];exact qp) cK,K7,q]
 simp only[execOp,ho,Sem.run_bind,rx,ry,run_eqGuard_agg w _ _ _ _ _ _ JM,Result.andThen_ok]
 cases neg<;>simp[binOp,q2,dE]
theorem NG {x:Operand} {x':O} {t yt e:TypeId} {neg:Bool} {b:Bool} (E:bw P w D ι env a) (ho:o.op=.binOp (if neg then .neq else .eql) t x (.const (.slice none 0 0)) yt) (ht:P.underlying t=some (.slice e)) (hx:cO P x=some x')
  (hv:dn (cE env x')=some b):nB P a o w D ι (.bool (dE neg b)):=by
 have hr:=cF E hx
 have rx:∃A n c,a.eval x=.slice A n c/\b=A.isNone:=by
  unfold dn at hv
  split at hv<;>simp at hv<;>subst hv<;>rename_i hh
  ·rw[hh]at hr;exact⟨_,_,_,jT hr,rfl⟩
  ·rw[hh]at hr;obtain⟨o,cap,B,h,_⟩:=iF hr
   exact⟨_,_,_,h,rfl⟩
  ·rw[hh]at hr
   obtain⟨A,c,h',_,_,h⟩:=vp hr
   rcases h with h|⟨b,o,sz,vs,rfl,_⟩
   ·simp at h
   ·exact⟨_,_,_,h',rfl⟩
 refine⟨.bool (dE neg b),?_,.eD _ _ (.bool _)⟩
 obtain⟨A,n,c,h,rfl⟩:=rx
 have hq:(Op.equal t (.slice A n c) (.slice none 0 0)).run P w=.ok A.isNone w:=by
  unfold Op.equal
  rw[show Op.maxDepth=9999+1 from rfl,Op.equalIn]
  simp only[Sem.run_bind,run_underlying ht,Result.andThen_ok]
  cases A<;>rfl
 have hc:a.eval (.const (.slice none 0 0))=.slice none 0 0:=rfl
 simp only[execOp,ho,h,hc]
 cases neg<;>simp only[Bool.false_eq_true,if_false,if_true,Bool.not_true,Bool.not_false,eqGuard,binOp,dE,Sem.run_bind,hq,Result.andThen_ok,Sem.run_pure]
theorem P9 {x:Operand} {x':O} {t yt e:TypeId} {neg:Bool} {b:Bool} (E:bw P w D ι env a) (ho:o.op=.binOp (if neg then .neq else .eql) t x (.const (.pointer none)) yt) (ht:P.underlying t=some (.pointer e)) (hx:cO P x=some x')
  (hv:II (cE env x')=some b):nB P a o w D ι (.bool (dE neg b)):=by
 have hr:=cF E hx
 have rx:∃A,a.eval x=.pointer A/\b=A.isNone:=by
  unfold II at hv
  split at hv<;>simp at hv<;>subst hv<;>rename_i hh
  ·rw[hh]at hr;exact⟨_,H8 hr,rfl⟩
  ·rw[hh]at hr;obtain⟨B,h,_⟩:=iq hr
   exact⟨_,h,rfl⟩
  ·rw[hh]at hr;obtain⟨_,_,_,h,_⟩:=kF hr
   exact⟨_,h,rfl⟩
 refine⟨.bool (dE neg b),?_,.eD _ _ (.bool _)⟩
 obtain⟨A,h,rfl⟩:=rx
 have hq:(Op.equal t (.pointer A) (.pointer none)).run P w=.ok A.isNone w:=by
  unfold Op.equal
  rw[show Op.maxDepth=9999+1 from rfl,Op.equalIn]
  simp only[Sem.run_bind,run_underlying ht,Result.andThen_ok]
  cases A<;>rfl
 have hc:a.eval (.const (.pointer none))=.pointer none:=rfl
 simp only[execOp,ho,h,hc]
 cases neg<;>simp only[Bool.false_eq_true,if_false,if_true,Bool.not_true,Bool.not_false,eqGuard,binOp,dE,Sem.run_bind,hq,Result.andThen_ok,Sem.run_pure]
theorem NF {x:Operand} {x':O} {t yt:TypeId} {p r:Array TypeId} {va:Bool} {neg:Bool} {b:Bool} (E:bw P w D ι env a) (ho:o.op=.binOp (if neg then .neq else .eql) t x (.const .nilFunc) yt) (ht:P.underlying t=some (.func p r va)) (hx:cO P x=some x')
  (hv:dm (cE env x')=some b):nB P a o w D ι (.bool (dE neg b)):=by
 have hr:=cF E hx
 have rx:a.eval x=.nilFunc/\b=true∨∃f c,a.eval x=.func f #[] c/\b=false:=by
  unfold dm at hv
  split at hv<;>simp at hv<;>subst hv<;>rename_i hh
  ·rw[hh]at hr;exact .inl ⟨vn hr,rfl⟩
  ·rw[hh]at hr;obtain⟨vs,g,h,_⟩:=y6 hr
   exact .inr ⟨_,_,h,rfl⟩
 refine⟨.bool (dE neg b),?_,.eD _ _ (.bool _)⟩
 have hc:a.eval (.const .nilFunc)=.nilFunc:=rfl
 rcases rx with⟨h,rfl⟩|⟨f,c,h,rfl⟩
 ·have hq:(Op.equal t .nilFunc .nilFunc).run P w=.ok true w:=by
   unfold Op.equal
   rw[show Op.maxDepth=9999+1 from rfl,Op.equalIn]
   simp only[Sem.run_bind,run_underlying ht,Result.andThen_ok]
   rfl
  simp only[execOp,ho,h,hc]
  cases neg<;>simp only[Bool.false_eq_true,if_false,if_true,Bool.not_true,Bool.not_false,eqGuard,binOp,dE,Sem.run_bind,hq,Result.andThen_ok,Sem.run_pure]
 ·have hq:(Op.equal t (.func f #[] c) .nilFunc).run P w=.ok false w:=by
   unfold Op.equal
   rw[show Op.maxDepth=9999+1 from rfl,Op.equalIn]
   simp only[Sem.run_bind,run_underlying ht,Result.andThen_ok]
   rfl
  simp only[execOp,ho,h,hc]
  cases neg<;>simp only[Bool.false_eq_true,if_false,if_true,Bool.not_true,Bool.not_false,eqGuard,binOp,dE,Sem.run_bind,hq,Result.andThen_ok,Sem.run_pure]
theorem Qd {x:Operand} {x':O} {t:TypeId} (E:bw P w D ι env a) (ho:o.op=.unOp .not t x) (hx:cO P x=some x') (hv:eL (cE env x')=some v):nB P a o w D ι v:=by
 have hr:=cF E hx
 unfold eL at hv
 split at hv
 ·rename_i b hb
  simp at hv;subst hv
  rw[hb]at hr
  exact⟨_,by simp only[execOp,ho,eS hr];rfl,.eD _ _ (.bool _)⟩
 ·simp at hv
theorem Qc {x:Operand} {x':O} {t:TypeId} (E:bw P w D ι env a) (ho:o.op=.unOp .neg t x) (hx:cO P x=some x') (hv:eJ (cE env x')=some v):nB P a o w D ι v:=by
 have hr:=cF E hx
 unfold eJ at hv
 split at hv
 ·rename_i k n hb
  simp at hv;subst hv
  rw[hb]at hr
  refine⟨_,by simp only[execOp,ho,cV hr];rfl,?_⟩
  rw[Int.zero_sub];exact .eD _ _ (.int _ _)
 ·simp at hv
theorem ND {x:Operand} {x':O} {s d:TypeId} {k q:IntKind} (E:bw P w D ι env a) (ho:o.op=.convert s d x) (hs:P.underlying s=some (.int q)) (hd:P.underlying d=some (.int k)) (hx:cO P x=some x') (hv:da k (cE env x')=some v):nB P a o w D ι v:=by
 have hr:=cF E hx
 unfold da at hv
 split at hv
 ·rename_i k' n hb
  simp at hv;subst hv
  rw[hb]at hr
  refine⟨.int k (k.wrap n),?_,.eD _ _ (.int _ _)⟩
  simp only[execOp,ho,cV hr,convert,Sem.run_bind,run_underlying hs,run_underlying hd,Result.andThen_ok,Conv.intToInt,Sem.run_pure]
 ·simp at hv
theorem KM {x:Operand} {x':O} {s:TypeId} {i:Nat} {fs:Array Field} {f:Field} {m:Nat} (E:bw P w D ι env a) (ho:o.op=.fieldAddr s x i) (hs:P.underlying s=some (.struct fs)) (hf:fs[i]? =some f) (hm:dG P f.type=some (m+1)) (hx:cO P x=some x')
  (hv:Dr f.offset (cE env x')=some v):nB P a o w D ι v:=by
 have hr:=cF E hx
 have go:∀b oo,a.eval x=.pointer (some ⟨b,oo,none⟩)->(execOp a.eval o).run P w=.ok (.value (.pointer (some ⟨b,oo+f.offset,none⟩))) w:=fun b oo h=>by
  simp only[execOp,ho,h,Instr.fieldAt,Sem.run_bind,run_underlying hs,Result.andThen_ok,hf,Instr.sureAddr,Sem.run_pure,fieldPlace,run_sizeOf hm,Nat.add_eq_zero_iff,Nat.one_ne_zero,and_false,if_false,Addr.add]
  split
  ·rename_i h0;simp[h0]
  ·rfl
 unfold Dr at hv
 split at hv
 ·rename_i jR i' oo hb
  simp at hv;subst hv
  rw[hb]at hr
  obtain⟨B,h,hB,hk⟩:=iq hr
  refine⟨_,go _ _ h,?_⟩
  rw[Nat.add_assoc]
  exact .ptr _ _ _ _ hB hk
 ·rename_i cs hb
  simp at hv;subst hv
  rw[hb]at hr
  obtain⟨b,oo,vs,h,h1,h2,h3,h4⟩:=kF hr
  refine⟨_,go _ _ h,.eD _ _ (.bK _ _ _ (fun j=>vs (f.offset+j)) h1 (fun a ha=>h2 a (List.mem_of_mem_drop ha)) (fun j hj=>?_) (fun j a ha=>h4 _ _ (by simpa using ha)))⟩
  rw[Nat.add_assoc]
  exact h3 _ (by simp at hj;omega)
 ·simp at hv
theorem KN {x:Operand} {x':O} {s:TypeId} {i n:Nat} {ag:Bool} {fs:Array Field} {f:Field} (E:bw P w D ι env a) (ho:o.op=.field s x i) (hs:P.underlying s=some (.struct fs)) (hf:fs[i]? =some f) (tr:nk P f.type=some ag) (hm:dG P f.type=some n) (hx:cO P x=some x')
  (hv:bQ ag f.offset n (cE env x')=some v):nB P a o w D ι v:=by
 have hr:=cF E hx
 unfold bQ at hv
 split at hv
 ·rename_i cs hb
  split at hv
  ·rename_i hl
   rw[hb]at hr
   obtain⟨vs,g,h,n1,fl,f1,r1⟩:=jg hr
   unfold part at hv
   cases ag with
   |true=>
    simp only[if_true]at hv
    split at hv
    ·simp at hv;subst hv
     refine⟨.agg (vs.extract f.offset (f.offset+n)),?_,.agg _ _ (fun j=>g (f.offset+j)) (by simp[n1];omega) (fun a ha=>fl a (List.mem_of_mem_drop (List.mem_of_mem_take ha))) (fun j hj=>?_) (fun j a ha=>?_)⟩
     ·simp only[execOp,ho,h,Instr.field,Sem.run_bind,run_underlying hs,Result.andThen_ok,hf,asAgg,Sem.run_pure,oF tr hm]
     ·simp at hj
      rw[Array.getElem?_extract,if_pos (by omega)];exact f1 _ (by omega)
     ·rw[List.getElem?_take]at ha
      split at ha
      ·exact r1 _ _ (by simpa using ha)
      ·simp at ha
    ·simp at hv
   |false=>
    simp only[Bool.false_eq_true,if_false]at hv
    have ns:cs[f.offset]? =some v:=by simpa[List.head?_drop]using hv
    have dy:=(List.getElem?_eq_some_iff.1 ns).1
    exact⟨g f.offset,by simp only[execOp,ho,h,Instr.field,Sem.run_bind,run_underlying hs,Result.andThen_ok,hf,asAgg,Sem.run_pure,lU tr (f1 _ dy)],r1 _ _ ns⟩
  ·simp at hv
 ·simp at hv
theorem Qe {left:Bool} {x y:Operand} {x' y':O} {t yt:TypeId} (E:bw P w D ι env a) (ho:o.op=.binOp (if left then .shl else .shr) t x y yt) (hx:cO P x=some x') (hy:cO P y=some y') (hv:jq left (cE env x') (cE env y')=some v):nB P a o w D ι v:=by
 unfold jq at hv
 split at hv
 ·rename_i k n k' m hb rG
  split at hv
  ·simp at hv
  ·rename_i hm
   simp at hv;subst hv
   have h1:=cV (hb▸cF E hx)
   have h2:=cV (rG▸cF E hy)
   refine⟨_,?_,.eD _ _ (.int _ _)⟩
   simp only[execOp,ho,h1,h2]
   cases left<;>simp only[Bool.false_eq_true,if_false,if_true,eqGuard,Bool.not_true,Bool.not_false,binOp,Op.shift,hm,Sem.run_bind,Sem.run_pure,Result.andThen_ok]<;>rfl
 ·simp at hv
end
end Go.Proofs.YtgoelphibofcmaaGreat.V

namespace Go.Proofs.YtgoelphibofcmaaGreat.V
open Go.RowKit
variable {P:Program} {w w':World} {D D':Nat->Prop} {ι ι':Names}
theorem jW (b o j:Nat):(⟨b,o,none⟩:Addr).add j=⟨b,o+j,none⟩:=by unfold Addr.add;split<;>simp_all
section
variable {g:Rows} {hs:Nat} {env:Env} {a:Act} {o:Oper} {id:Id} {v:AV}
theorem j9 {t:TypeId} {ag:Bool} {n b oo:Nat} {cs:List AV} {v:AV} {f:Nat->Value} (tr:nk P t=some ag) (hn:dG P t=some n) (hp:part ag n cs=some v) (fl:∀a∈cs,a.cell=true)
  (hc:∀j,j<cs.length->w.cell? ⟨b,oo+j,none⟩=some (f j)) (hr:∀j a,cs[j]? =some a->cq P w D ι a (f j)):∃u,(loadVar t ⟨b,oo,none⟩).run P w=.ok u w/\cq P w D ι v u:=by
 unfold part at hp
 cases ag with
 |true=>
  simp only[if_true]at hp
  split at hp
  ·rename_i hl
   simp at hp;subst hp
   refine⟨.agg ((List.range n).map f).toArray,?_,.agg _ _ f (by simp;omega) (fun a ha=>fl a (List.mem_of_mem_take ha)) (fun j hj=>?_) (fun j a ha=>?_)⟩
   ·simp only[loadVar,Sem.run_bind,rV tr,Result.andThen_ok,if_true,run_sizeOf hn,Sem.run_pure]
    rw[run_loadCells w _ n f (fun j hj=>by rw[jW];exact hc j (by omega))]
    rfl
   ·simp at hj
    have:j<n:=by omega
    simp[this]
   ·rw[List.getElem?_take]at ha
    split at ha
    ·exact hr _ _ ha
    ·simp at ha
  ·simp at hp
 |false=>
  simp only[Bool.false_eq_true,if_false]at hp
  cases cs with
  |nil=>simp at hp
  |cons c r=>
   simp at hp;subst hp
   refine⟨f 0,?_,hr 0 _ rfl⟩
   simp only[loadVar,Sem.run_bind,rV tr,Result.andThen_ok,Bool.false_eq_true,if_false]
   have:=hc 0 (by simp)
   simp at this
   rw[run_load,this]
theorem Ik {S:fV P hs D ι g w} {i:Nat} {cs:List AV} (h:rowAt g id i=some cs) (hk:∀B,ι id=some B->B.k=none):∃B r,g id=some r/\ι id=some B/\k6 P w D ι B r/\r.rows[i]? =some cs/\(∀a∈cs,a.cell=true)/\∃f:Nat->Value,∀j,j<cs.length->w.cell? ⟨B.b,i*B.sz+j,none⟩=some (f j)/\∀a,cs[j]? =some a->cq P w D ι a (f j):=by
 unfold rowAt at h
 simp only[Option.bind_eq_some_iff]at h
 obtain⟨r,hr,hi⟩:=h
 obtain⟨B,hB,R,_,_⟩:=S.row id r hr
 replace R:=R.row (hk B hB)
 refine⟨B,r,hr,hB,R,hi,R.flat cs (List.mem_of_getElem? hi),fun j=>(w.cell? ⟨B.b,i*B.sz+j,none⟩).getD undef,fun j hj=>?_⟩
 obtain⟨u,hu,wC⟩:=R.at_ i j cs _ hi (List.getElem?_eq_getElem hj)
 rw[R.sz,hu]
 refine⟨by simp only[hu,Option.getD_some],fun a ha=>?_⟩
 rw[List.getElem?_eq_getElem hj]at ha
 injection ha with ha
 subst ha
 simpa only[hu,Option.getD_some]using wC
theorem NM {x:Operand} {x':O} {t:TypeId} {ag:Bool} {n:Nat} (S:fV P hs D ι g w) (E:bw P w D ι env a) (ho:o.op=.load t x) (tr:nk P t=some ag) (hn:dG P t=some n) (hx:cO P x=some x') (hv:ld g ag n (cE env x')=some v):nB P a o w D ι v:=by
 have hr:=cF E hx
 have go:∀b oo u,a.eval x=.pointer (some ⟨b,oo,none⟩)->(loadVar t ⟨b,oo,none⟩).run P w=.ok u w->(execOp a.eval o).run P w=.ok (.value u) w:=fun b oo u h h2=>by
  simp only[execOp,ho,h,Instr.loadAt,Instr.sureAddr,Sem.run_bind,Sem.run_pure,Result.andThen_ok,h2]
 unfold ld at hv
 split at hv
 ·rename_i jR i' oo hb
  rw[hb]at hr
  obtain⟨B,h,hB,hk⟩:=iq hr
  simp only[Option.bind_eq_some_iff]at hv
  obtain⟨cs,cR,hp⟩:=hv
  obtain⟨B',r,Gh,dx,R,hi,fl,f,hf⟩:=Ik (S:=S) cR (fun B2 h2=>by rw[hB]at h2;injection h2 with h2;subst h2;exact hk)
  rw[hB]at dx;injection dx with dx;subst dx
  obtain⟨u,h1,h2⟩:=j9 (w:=w) (b:=B.b) (oo:=i'*B.sz+oo) (f:=fun j=>f (oo+j)) tr hn hp (fun a ha=>fl a (List.mem_of_mem_drop ha)) (fun j hj=>by
   rw[Nat.add_assoc];exact(hf _ (by simp at hj;omega)).1) (fun j a ha=>by
   simp at ha;exact(hf _ ((List.getElem?_eq_some_iff.1 ha).1)).2 _ ha)
  exact⟨u,go _ _ _ h h1,h2⟩
 ·rename_i cs hb
  rw[hb]at hr
  obtain⟨b,oo,vs,h,h1,h2,h3,h4⟩:=kF hr
  obtain⟨u,k1,k2⟩:=j9 (w:=w) (b:=b) (oo:=oo) (f:=vs) tr hn hv h2 h3 (fun j a ha=>.eD _ _ (h4 j a ha))
  exact⟨u,go _ _ _ h k1,k2⟩
 ·simp at hv
theorem P7 {x:Operand} {x':O} (E:bw P w D ι env a) (ho:o.op=.nilCheck x) (hx:cO P x=some x') (hv:eH (cE env x')=some v):nB P a o w D ι v:=by
 have hr:=cF E hx
 unfold eH at hv
 split at hv
 ·rename_i jR i' oo hb
  simp at hv;subst hv
  rw[hb]at hr
  obtain⟨B,h,hB,hk⟩:=iq hr
  exact⟨_,by simp only[execOp,ho,h];rfl,.ptr _ _ _ _ hB hk⟩
 ·rename_i cs hb
  simp at hv;subst hv
  rw[hb]at hr
  obtain⟨b,oo,vs,h,_⟩:=kF hr
  exact⟨_,by simp only[execOp,ho,h];rfl,h▸hr⟩
 ·simp at hv
theorem KO {x i:Operand} {x' i':O} {t e:TypeId} {m:Nat} (S:fV P hs D ι g w) (E:bw P w D ι env a) (ho:o.op=.indexAddr t x i) (ht:P.underlying t=some (.slice e)) (hm:dG P e=some (m+1)) (hx:cO P x=some x') (hi:cO P i=some i')
  (hv:bR g (m+1) (cE env x') (cE env i')=some v):nB P a o w D ι v:=by
 have hr:=cF E hx
 have Cz:=cF E hi
 have go:∀b oo n c k (q:Int),a.eval x=.slice (some ⟨b,oo,none⟩) n c->a.eval i=.int k q->0<=q->q<n->(execOp a.eval o).run P w=.ok (.value (.pointer (some ⟨b,oo+q.toNat*(m+1),none⟩))) w:=fun b oo n c k q h h2 h3 h4=>by
  simp only[execOp,ho,h,h2,Instr.indexAt,asIntOf,Sem.run_bind,Sem.run_pure,run_underlying ht,Result.andThen_ok,h3,h4,and_self,if_true,run_sizeOf hm,jW]
 unfold bR at hv
 split at hv
 ·rename_i rows k q hb rG
  split at hv
  ·rename_i hq
   simp only[Option.bind_eq_some_iff]at hv
   obtain⟨cs,cR,hv⟩:=hv
   split at hv
   ·rename_i hlen
    simp at hv;subst hv
    rw[hb]at hr;rw[rG]at Cz
    have dy:=(List.getElem?_eq_some_iff.1 cR).1
    obtain⟨A,c,h,h1,h2,h3⟩:=vp hr
    rcases h3 with h3|⟨b,oo,sz,vs,rfl,hD,hl,fl,hc,hi⟩
    ·subst h3;simp at cR
    have e5:sz=m+1:=by rw[<-hlen,hl cs (List.mem_of_getElem? cR)]
    refine⟨_,go b oo _ _ k q h (cV Cz) hq (by omega),.eD _ _ (.bK cs b _ (vs q.toNat) hD (fl cs (List.mem_of_getElem? cR)) (fun j hj=>?_) (fun j a ha=>hi _ _ _ _ cR ha))⟩
    have:=hc q.toNat j dy (by rw[<-hl cs (List.mem_of_getElem? cR)];exact hj)
    rw[e5]at this
    rw[Nat.add_assoc];exact this
   ·simp at hv
  ·simp at hv
 ·rename_i jR off len k q hb rG
  split at hv
  ·rename_i hq
   simp only[Option.bind_eq_some_iff]at hv
   obtain⟨r,Gh,hv⟩:=hv
   split at hv
   ·rename_i xk
    simp at hv;subst hv
    rw[hb]at hr;rw[rG]at Cz
    obtain⟨oo,cap,B,h,hB,h1,h2,h3,h4,hk⟩:=iF hr
    obtain⟨B',dx,R,_,_⟩:=S.row _ _ Gh
    rw[hB]at dx;injection dx with dx;subst dx
    replace R:=R.row hk
    have e5:B.sz=m+1:=R.sz.trans xk
    refine⟨_,go _ _ _ _ k q h (cV Cz) hq.1 hq.2,?_⟩
    have By:oo=off*B.sz:=by rcases h2 with h2|h2<;>omega
    have:oo+q.toNat*(m+1)=(off+q.toNat)*B.sz+0:=by rw[By,<-e5,Nat.add_mul];rfl
    rw[this]
    exact .ptr _ _ _ _ hB hk
   ·simp at hv
  ·simp at hv
 ·simp at hv
theorem NH {x i:Operand} {x' i':O} {t e:TypeId} {m len:Nat} (E:bw P w D ι env a) (ho:o.op=.indexAddr t x i) (ht:P.underlying t=some (.array len e)) (hm:dG P e=some (m+1)) (hx:cO P x=some x') (hi:cO P i=some i')
  (hv:db len (m+1) (cE env x') (cE env i')=some v):nB P a o w D ι v:=by
 have hr:=cF E hx
 have Cz:=cF E hi
 have go:∀b oo k (q:Int),a.eval x=.pointer (some ⟨b,oo,none⟩)->a.eval i=.int k q->0<=q->q<len->(execOp a.eval o).run P w=.ok (.value (.pointer (some ⟨b,oo+q.toNat*(m+1),none⟩))) w:=fun b oo k q h h2 h3 h4=>by
  simp only[execOp,ho,h,h2,Instr.indexAt,asIntOf,Sem.run_bind,Sem.run_pure,run_underlying ht,Instr.sureAddr,Result.andThen_ok,h3,h4,and_self,if_true,run_sizeOf hm,jW]
 unfold db at hv
 split at hv
 ·rename_i jR r oo k q hb rG
  split at hv
  ·rename_i hq
   simp at hv;subst hv
   rw[hb]at hr;rw[rG]at Cz
   obtain⟨B,h,hB,hk⟩:=iq hr
   refine⟨_,go _ _ k q h (cV Cz) hq.1 hq.2,?_⟩
   rw[Nat.add_assoc]
   exact .ptr _ _ _ _ hB hk
  ·simp at hv
 ·rename_i cs k q hb rG
  split at hv
  ·rename_i hq
   simp at hv;subst hv
   rw[hb]at hr;rw[rG]at Cz
   obtain⟨b,oo,vs,h,h1,h2,h3,h4⟩:=kF hr
   refine⟨_,go _ _ k q h (cV Cz) hq.1 hq.2,.eD _ _ (.bK _ _ _ (fun j=>vs (q.toNat*(m+1)+j)) h1 (fun a ha=>h2 a (List.mem_of_mem_drop ha)) (fun j hj=>?_) (fun j a ha=>h4 _ _ (by simpa using ha)))⟩
   rw[Nat.add_assoc]
   exact h3 _ (by simp at hj;omega)
  ·simp at hv
 ·simp at hv
theorem NJ {x i:Operand} {x' i':O} {t:TypeId} (E:bw P w D ι env a) (ho:o.op=.index t x i) (ht:P.underlying t=some .string) (hx:cO P x=some x') (hi:cO P i=some i')
  (hv:de (cE env x') (cE env i')=some v):nB P a o w D ι v:=by
 have hr:=cF E hx
 have Cz:=cF E hi
 unfold de at hv
 split at hv
 ·rename_i s k q hb rG
  split at hv
  ·rename_i hq
   simp only[Option.map_eq_some_iff]at hv
   obtain⟨c,hc,rfl⟩:=hv
   rw[hb]at hr;rw[rG]at Cz
   refine⟨_,?_,.eD _ _ (.int _ _)⟩
   simp only[execOp,ho,fm hr,cV Cz,Instr.index,asIntOf,Sem.run_bind,Sem.run_pure,run_underlying ht,Result.andThen_ok,hq,if_true,hc]
  ·simp at hv
 ·simp at hv
theorem NI {x i:Operand} {x' i':O} {t e:TypeId} {ag:Bool} {len n:Nat} (E:bw P w D ι env a) (ho:o.op=.index t x i) (ht:P.underlying t=some (.array len e)) (tr:nk P e=some ag) (hn:dG P e=some n) (hx:cO P x=some x') (hi:cO P i=some i')
  (hv:dc ag len n (cE env x') (cE env i')=some v):nB P a o w D ι v:=by
 have hr:=cF E hx
 have Cz:=cF E hi
 unfold dc at hv
 split at hv
 ·rename_i cs k q hb rG
  split at hv
  ·rename_i hq
   rw[hb]at hr;rw[rG]at Cz
   obtain⟨vs,f,h,n1,fl,f1,r1⟩:=jg hr
   have go:∀u,(Go.part e vs (q.toNat*n)).run P w=.ok u w->(execOp a.eval o).run P w=.ok (.value u) w:=fun u hu=>by
    simp only[execOp,ho,h,cV Cz,Instr.index,asIntOf,Sem.run_bind,Sem.run_pure,run_underlying ht,Result.andThen_ok,hq,and_self,if_true,run_sizeOf hn,hu]
   unfold part at hv
   cases ag with
   |true=>
    simp only[if_true]at hv
    split at hv
    ·rename_i hl
     simp at hv;subst hv
     simp only[List.length_drop]at hl
     by_cases Gj:n=0
     ·subst Gj
      refine⟨_,go _ (oF tr hn),.agg _ _ (fun _=>undef) (by simp) (fun a ha=>by simp at ha) (fun j hj=>by simp at hj) (fun j a ha=>by simp at ha)⟩
     refine⟨_,go _ (oF tr hn),.agg _ _ (fun j=>f (q.toNat*n+j)) (by simp[n1];omega) (fun a ha=>fl a (List.mem_of_mem_drop (List.mem_of_mem_take ha))) (fun j hj=>?_) (fun j a ha=>?_)⟩
     ·simp at hj
      rw[Array.getElem?_extract,if_pos (by omega)];exact f1 _ (by omega)
     ·rw[List.getElem?_take]at ha
      split at ha
      ·exact r1 _ _ (by simpa using ha)
      ·simp at ha
    ·simp at hv
   |false=>
    simp only[Bool.false_eq_true,if_false]at hv
    have ns:cs[q.toNat*n]? =some v:=by simpa[List.head?_drop]using hv
    have dy:=(List.getElem?_eq_some_iff.1 ns).1
    exact⟨_,go _ (lU tr (f1 _ dy)),r1 _ _ ns⟩
  ·simp at hv
 ·simp at hv
theorem Ge {x:Operand} {x':O} {i:Nat} (E:bw P w D ι env a) (ho:o.op=.extract x i) (hx:cO P x=some x') (hv:aO i (cE env x')=some v):nB P a o w D ι v:=by
 have hr:=cF E hx
 unfold aO at hv
 split at hv
 ·rename_i vs hb
  rw[hb]at hr
  obtain⟨us,f,h,h1,h2,h3⟩:=y7 hr
  have dy:=(List.getElem?_eq_some_iff.1 hv).1
  exact⟨_,by simp only[execOp,ho,h,Instr.extract,h2 _ dy];rfl,h3 _ _ hv⟩
 ·simp at hv
theorem Qb {x:Operand} {x':O} {t:TypeId} {e:TypeId} {n:Nat} (E:bw P w D ι env a) (ho:o.op=.call {callee:=.builtin .len,args:= #[x],argTypes:= #[t]}) (ht:P.underlying t=some (.slice e)) (hx:cO P x=some x') (hv:eI (cE env x')=some n):nB P a o w D ι (.int .i64 n):=by
 have hr:=cF E hx
 have go:∀A c,a.eval x=.slice A n c->(execOp a.eval o).run P w=.ok (.value (.int .i64 n)) w:=fun A c h=>by
  simp only[execOp,ho,resolve,Sem.run_bind,Sem.run_pure,Result.andThen_ok,invoke,builtin,Array.map,h]
  simp[Builtin.len_,run_underlying ht,goInt,h]
 refine⟨.int .i64 n,?_,.eD _ _ (.int _ _)⟩
 unfold eI at hv
 split at hv<;>simp at hv<;>subst hv<;>rename_i hb<;>rw[hb]at hr
 ·exact go _ _ (jT hr)
 ·obtain⟨A,c,h,_⟩:=vp hr;exact go _ _ h
 ·obtain⟨oo,cap,B,h,_⟩:=iF hr;exact go _ _ h
theorem NL {x:Operand} {x':O} {t:TypeId} (E:bw P w D ι env a) (ho:o.op=.call {callee:=.builtin .len,args:= #[x],argTypes:= #[t]}) (ht:P.underlying t=some .string) (hx:cO P x=some x') (hv:di (cE env x')=some v):nB P a o w D ι v:=by
 have hr:=cF E hx
 unfold di at hv
 split at hv
 ·rename_i s hb
  simp at hv;subst hv
  rw[hb]at hr
  have h:=fm hr
  refine⟨_,?_,.eD _ _ (.int _ _)⟩
  simp only[execOp,ho,resolve,Sem.run_bind,Sem.run_pure,Result.andThen_ok,invoke,builtin,Array.map,h]
  simp[Builtin.len_,run_underlying ht,goInt,h]
 ·simp at hv
theorem mB {isS:Bool} {len cap h l:Nat} {lo hi:Option Operand} {Lp p9:Option O} (E:bw P w D ι env a) (jV:ql P lo=some Lp) (BB:ql P hi=some p9) (hh:eu len (p9.map (cE env))=some h) (hl:ew h (Lp.map (cE env))=some l) (hc:len<=cap):
  (Instr.sliceBounds isS len cap (lo.map a.eval) (hi.map a.eval) none).run P w=.ok (l,h,cap) w/\l<=h/\h<=len:=by
 have bound:∀(x:Operand) (y:O) (k:IntKind) (n:Int) (m:Nat) (c:BoundsCode),cO P x=some y->cE env y=.int k n->0<=n->n<=m->(Instr.sliceBound (a.eval x) m c).run P w=.ok n.toNat w:=fun x y k n m c hx hy h0 h1=>by
  have hr:=cF E hx
  rw[hy]at hr
  simp only[Instr.sliceBound,cV hr,asIntOf,Sem.run_bind,Sem.run_pure,Result.andThen_ok,h0,h1,and_self,if_true]
 have H:h<=len/\((hi=none/\h=len)∨∃x,hi=some x/\∀c,(Instr.sliceBound (a.eval x) cap c).run P w=.ok h w):=by
  cases hi with
  |none=>
   simp[ql]at BB;subst BB
   simp[eu]at hh;subst hh
   exact⟨Nat.le_refl _,.inl ⟨rfl,rfl⟩⟩
  |some x=>
   simp only[ql,Option.map_eq_some_iff]at BB
   obtain⟨y,hy,rfl⟩:=BB
   simp only[Option.map_some,eu]at hh
   split at hh
   ·rename_i e;cases e
   ·rename_i k n e
    injection e with e
    split at hh
    ·rename_i hn
     simp at hh;subst hh
     exact⟨by omega,.inr ⟨x,rfl,fun c=>bound x y k n _ _ hy e hn.1 (by omega)⟩⟩
    ·simp at hh
   ·simp at hh
 have L:l<=h/\((lo=none/\l=0)∨∃x,lo=some x/\∀c,(Instr.sliceBound (a.eval x) h c).run P w=.ok l w):=by
  cases lo with
  |none=>
   simp[ql]at jV;subst jV
   simp[ew]at hl;subst hl
   exact⟨Nat.zero_le _,.inl ⟨rfl,rfl⟩⟩
  |some x=>
   simp only[ql,Option.map_eq_some_iff]at jV
   obtain⟨y,hy,rfl⟩:=jV
   simp only[Option.map_some,ew]at hl
   split at hl
   ·rename_i e;cases e
   ·rename_i k n e
    injection e with e
    split at hl
    ·rename_i hn
     simp at hl;subst hl
     exact⟨by omega,.inr ⟨x,rfl,fun c=>bound x y k n h _ hy e hn.1 hn.2⟩⟩
    ·simp at hl
   ·simp at hl
 refine⟨?_,L.1,H.1⟩
 unfold Instr.sliceBounds
 rcases H.2 with⟨rfl,rfl⟩|⟨x,rfl,hx⟩<;>rcases L.2 with⟨rfl,rfl⟩|⟨y,rfl,hy⟩<;>
  simp only[Option.map_none,Option.map_some,Sem.run_bind,Sem.run_pure,Result.andThen_ok, *]
theorem KP {x:Operand} {x':O} {lo hi:Option Operand} {Lp p9:Option O} {t e:TypeId} {m:Nat} (S:fV P hs D ι g w) (E:bw P w D ι env a) (ho:o.op=.slice t x lo hi none) (ht:P.underlying t=some (.slice e)) (hm:dG P e=some m) (hx:cO P x=some x') (jV:ql P lo=some Lp) (BB:ql P hi=some p9)
  (hv:bU g m (cE env x') (Lp.map (cE env)) (p9.map (cE env))=some v):nB P a o w D ι v:=by
 have hr:=cF E hx
 have go:∀A len cap l h,a.eval x=.slice A len cap->(Instr.sliceBounds true len cap (lo.map a.eval) (hi.map a.eval) none).run P w=.ok (l,h,cap) w->(execOp a.eval o).run P w=.ok (.value (.slice (if cap=l then A else A.map (·.add (l*m))) (h-l) (cap-l))) w:=fun A len cap l h h1 h2=>by
  simp only[execOp,ho,h1,Instr.sliceAt,Instr.slice,Sem.run_bind,Sem.run_pure,run_underlying ht,Result.andThen_ok,Option.map_none,h2,run_sizeOf hm]
 unfold bU at hv
 split at hv
 ·rename_i hb
  rw[hb]at hr
  simp only[Option.bind_eq_some_iff,Option.map_eq_some_iff]at hv
  obtain⟨h,hh,l,hl,rfl⟩:=hv
  obtain⟨q,q1,q2⟩:=mB (w:=w) (isS:=true) (cap:=0) E jV BB hh hl (Nat.le_refl _)
  have h0:h=0:=by omega
  have l0:l=0:=by omega
  subst h0;subst l0
  refine⟨_,go _ _ _ _ _ (jT hr) q,?_⟩
  simp;exact .eD _ _ .cu
 ·rename_i rows hb
  rw[hb]at hr
  simp only[Option.bind_eq_some_iff,Option.map_eq_some_iff]at hv
  obtain⟨h,hh,l,hl,hv⟩:=hv
  split at hv
  ·rename_i dC
   simp at hv;subst hv
   obtain⟨A,c,he,c1,c2,h3⟩:=vp hr
   obtain⟨q,q1,q2⟩:=mB (w:=w) (isS:=true) (cap:=c) E jV BB hh hl c1
   refine⟨_,go _ _ _ _ _ he q,.eD _ _ ?_⟩
   have hlen:((rows.drop l).take (h-l)).length=h-l:=by simp;omega
   by_cases hz:h-l=0
   ·have:(rows.drop l).take (h-l)=[]:=by rw[hz];simp
    rw[this,hz]
    exact .C9 _ _ (by omega)
   ·rcases h3 with h3|⟨b,oo,sz,vs,rfl,hD,Ja,fl,hc,hi⟩
    ·subst h3;simp at q2;omega
    rw[if_neg (by omega)]
    simp only[Option.map_some,jW]
    have As:sz=m:=by
     have dy:l<rows.length:=by omega
     have:=dC rows[l] (List.getElem_mem dy)
     rw[<-this,Ja _ (List.getElem_mem dy)]
    subst As
    refine .sl _ b _ _ _ sz (fun i j=>vs (l+i) j) hlen (by omega) (by omega) hD (fun cs cR=>Ja cs (List.mem_of_mem_drop (List.mem_of_mem_take cR))) (fun cs cR=>fl cs (List.mem_of_mem_drop (List.mem_of_mem_take cR))) (fun i j hi hj=>?_) (fun i j cs a cR ha=>?_)
    ·rw[<-hc (l+i) j (by omega) hj,Nat.add_mul]
     congr 2;omega
    ·rw[List.getElem?_take]at cR
     split at cR
     ·exact hi _ _ _ _ (by simpa using cR) ha
     ·simp at cR
  ·simp at hv
 ·rename_i jR off len hb
  rw[hb]at hr
  simp only[Option.bind_eq_some_iff,Option.map_eq_some_iff]at hv
  obtain⟨r,Gh,h,hh,l,hl,hv⟩:=hv
  split at hv
  ·rename_i xk
   simp at hv;subst hv
   obtain⟨oo,cap,B,he,hB,h1,h2,h3,h4,hk⟩:=iF hr
   obtain⟨B',dx,R,_,_⟩:=S.row _ _ Gh
   rw[hB]at dx;injection dx with dx;subst dx
   replace R:=R.row hk
   have e5:B.sz=m:=R.sz.trans xk
   obtain⟨q,q1,q2⟩:=mB (w:=w) (isS:=true) (cap:=cap) E jV BB hh hl h1
   refine⟨_,go _ _ _ _ _ he q,?_⟩
   have e1:(off+l+(cap-l))*B.sz<=B.C:=by rw[show off+l+(cap-l)=off+cap by omega];exact h3
   by_cases oV:cap=l
   ·rw[if_pos oV]
    exact .own _ _ _ _ _ B hB hk (by omega) (.inl (by omega)) e1 (by omega)
   ·rw[if_neg oV]
    simp only[Option.map_some,jW]
    have By:oo=off*B.sz:=by rcases h2 with h2|h2<;>omega
    exact .own _ _ _ _ _ B hB hk (by omega) (.inr (by rw[By,e5,Nat.add_mul])) e1 (by omega)
  ·simp at hv
 ·simp at hv
theorem IW {x:Operand} {x':O} {lo hi:Option Operand} {Lp p9:Option O} {t:TypeId} (E:bw P w D ι env a) (ho:o.op=.slice t x lo hi none) (ht:P.underlying t=some .string) (hx:cO P x=some x') (jV:ql P lo=some Lp) (BB:ql P hi=some p9)
  (hv:bp (cE env x') (Lp.map (cE env)) (p9.map (cE env))=some v):nB P a o w D ι v:=by
 have hr:=cF E hx
 unfold bp at hv
 split at hv
 ·rename_i s hb
  rw[hb]at hr
  simp only[Option.bind_eq_some_iff,Option.map_eq_some_iff]at hv
  obtain⟨h,hh,l,hl,rfl⟩:=hv
  obtain⟨q,_,_⟩:=mB (w:=w) (isS:=false) E jV BB hh hl (Nat.le_refl _)
  refine⟨_,?_,.eD _ _ (.str _)⟩
  simp only[execOp,ho,fm hr,Instr.sliceAt,Instr.slice,Sem.run_bind,Sem.run_pure,run_underlying ht,Result.andThen_ok,Option.map_none,Option.isSome_none,Bool.false_eq_true,if_false,q]
 ·simp at hv
theorem CZ {xs:List Operand} {ys:List O} (E:bw P w D ι env a) (h:xs.mapM (cO P)=some ys):(xs.map a.eval).length=ys.length/\∀j y,ys[j]? =some y->cq P w D ι (cE env y) ((xs.map a.eval).getD j undef):=by
 induction xs generalizing ys with
 |nil=>simp at h;subst h;simp
 |cons x r ih=>
  simp only[List.mapM_cons,Option.bind_eq_bind,Option.bind_eq_some_iff]at h
  obtain⟨c,hc,pb,cR,h⟩:=h
  simp at h;subst h
  obtain⟨h1,h2⟩:=ih cR
  refine⟨by simpa using h1,fun j d hd=>?_⟩
  cases j with
  |zero=>simp at hd ⊢;subst hd;exact cF E hc
  |succ j=>simp at hd ⊢;simpa using h2 j d hd
theorem NO {f:Nat} {first bZ:Array Operand} {zW:List O} (E:bw P w D ι env a) (ho:o.op=.makeFunc (.func f) first bZ) (hf:first= #[]) (hc:fE P f=true) (hx:bZ.toList.mapM (cO P)=some zW):nB P a o w D ι (.fn f (zW.map (cE env))):=by
 subst hf
 obtain⟨h1,h2⟩:=CZ E hx
 refine⟨.func (.func f) #[] (bZ.map a.eval),by simp only[execOp,ho,Instr.makeFunc,Sem.run_bind,Sem.run_pure,Result.andThen_ok];simp,.fn _ _ _ (fun j=>(bZ.toList.map a.eval).getD j undef) hc (by simpa using h1) (fun j hj=>?_) (fun j x Ol=>?_)⟩
 ·simp at hj h1
  have:j<bZ.size:=by omega
  simp[this]
 ·simp only[List.getElem?_map,Option.map_eq_some_iff]at Ol
  obtain⟨y,hy,rfl⟩:=Ol
  exact h2 j y hy
theorem NP {f:Nat} {first bZ:Array Operand} {zW:List O} (E:bw P w D ι env a) (ho:o.op=.makeFunc (.func f) first bZ) (hf:bZ= #[]) (hc:fE P f=true) (hx:first.toList.mapM (cO P)=some zW):nB P a o w D ι (.tb f (zW.map (cE env))):=by
 subst hf
 obtain⟨h1,h2⟩:=CZ E hx
 refine⟨.func (.func f) (first.map a.eval) #[],by simp only[execOp,ho,Instr.makeFunc,Sem.run_bind,Sem.run_pure,Result.andThen_ok];simp,.tb _ _ _ (fun j=>(first.toList.map a.eval).getD j undef) hc (by simpa using h1) (fun j hj=>?_) (fun j x Ol=>?_)⟩
 ·simp at hj h1
  have:j<first.size:=by omega
  simp[this]
 ·simp only[List.getElem?_map,Option.map_eq_some_iff]at Ol
  obtain⟨y,hy,rfl⟩:=Ol
  exact h2 j y hy
end
end Go.Proofs.YtgoelphibofcmaaGreat.V

namespace Go.Proofs.YtgoelphibofcmaaGreat.V
open Go.RowKit
variable {P:Program} {w w':World} {D D':Nat->Prop} {ι ι':Names}
def Mk (P:Program) (a:Act) (o:Oper) (w:World) (D:Nat->Prop) (ι:Names) (id:Id) (v:AV) (r:Row):Prop:=
 ∃u cells T,(execOp a.eval o).run P w=.ok (.value u) (w.alloc (.cells cells T))/\r.w=true/\r.rows.length*r.sz<=cells.size/\(∀cs∈r.rows,cs.length=r.sz)/\(∀cs∈r.rows,∀a∈cs,a.cell=true)/\
  (∀i j cs a,r.rows[i]? =some cs->cs[j]? =some a->∃x,cells[i*r.sz+j]? =some x/\cq P w D ι a x)/\∀ι':Names,ι' id=some ⟨w.heap.size,r.sz,cells.size,none⟩->cq P w D ι' v u
section
variable {g:Rows} {hs:Nat} {env:Env} {a:Act} {o:Oper} {id:Id} {v:AV}
theorem kL {vs:List Value} {cs:List K} (h:vs.mapM Fp=some cs):fa P w D ι (cs.map K.av) vs.toArray:=by
 obtain⟨h1,h2⟩:=qy h
 refine⟨by simp[h1],fun j a ha=>?_⟩
 simp only[List.getElem?_map,Option.map_eq_some_iff]at ha
 obtain⟨c,hc,rfl⟩:=ha
 exact⟨c.val,by simpa using h2 j c hc,vm c⟩
theorem jH {t:TypeId} {z:List K} (h:jt P t=some z):∃i v,P.info? t=some i/\i.zero=some v/\v.cells.size=i.size/\v.cells.toList.mapM Fp=some z/\z.length=i.size:=by
 unfold jt at h
 split at h
 ·rename_i i hi
  split at h
  ·rename_i v hv
   split at h
   ·rename_i hs
    exact⟨i,v,hi,hv,hs,h,by rw[(qy h).1];simpa using hs⟩
   ·simp at h
  ·simp at h
 ·simp at h
theorem Eh {cs:List AV} {cells:Array Value} (h:fa P w D ι cs cells):∀i j c a,[cs][i]? =some c->c[j]? =some a->∃x,cells[i*cs.length+j]? =some x/\cq P w D ι a x:=by
 intro i j c a hi hj
 cases i with
 |zero=>simp at hi;subst hi;simpa using h.2 j a hj
 |succ i=>simp at hi
theorem PJ {t:TypeId} {z:List K} (ho:o.op=.alloc t) (hz:jt P t=some z):Mk P a o w D ι id (.ptr id 0 0) ⟨true,z.length,[z.map K.av]⟩:=by
 obtain⟨i,v,hi,hv,hs,hm,hl⟩:=jH hz
 have hk:=kL (P:=P) (w:=w) (D:=D) (ι:=ι) hm
 refine⟨.pointer (some ⟨w.heap.size,0,none⟩),v.cells,t,?_,rfl,?_,?_,?_,?_,?_⟩
 ·simp only[execOp,ho,Instr.alloc,zeroValue,typeInfo,Sem.run_bind]
  simp[hi,hv,newVar,newRow]
 ·simp[hl,hs]
 ·intro cs cR;simp at cR;subst cR;simp
 ·intro cs cR x hx;simp at cR;subst cR
  obtain⟨c,_,rfl⟩:=List.mem_map.1 hx;exact c.mb
 ·have:=Eh hk;simpa using this
 ·intro ι' hι
  have:=cq.ptr (P:=P) (w:=w) (D:=D) (ι:=ι') id 0 0 _ hι rfl
  simpa using this
theorem pW {x:AV} {u:Value} (h:cq P w D ι x u) (hc:x.cells.all AV.cell=true):fa P w D ι x.cells u.cells:=by
 obtain⟨h1,f,h2,h3⟩:=h.cells hc
 exact⟨h1,fun j a ha=>⟨f j,h2 j (List.getElem?_eq_some_iff.1 ha).1,h3 j a ha⟩⟩
theorem PH {t:TypeId} {x:Operand} {x':O} {cs:List AV} (E:bw P w D ι env a) (ho:o.op=.box t x) (hx:cO P x=some x') (hb:cY (cE env x')=some cs):Mk P a o w D ι id (.ptr id 0 0) ⟨true,cs.length,[cs]⟩:=by
 have hr:=cF E hx
 unfold cY at hb
 split at hb
 ·rename_i dC
  simp at hb;subst hb
  have hk:=pW hr dC
  refine⟨.pointer (some ⟨w.heap.size,0,none⟩),(a.eval x).cells,t,?_,rfl,?_,?_,?_,?_,?_⟩
  ·simp only[execOp,ho,Instr.box,Sem.run_bind]
   simp[newVar,newRow]
  ·simp[hk.1]
  ·intro cs cR;simp at cR;subst cR;rfl
  ·intro cs cR y hy;simp at cR;subst cR
   exact List.all_eq_true.1 dC y hy
  ·exact Eh hk
  ·intro ι' hι
   have:=cq.ptr (P:=P) (w:=w) (D:=D) (ι:=ι') id 0 0 _ hι rfl
   simpa using this
 ·simp at hb
theorem foldl_set:∀(vs:List Value) (n off:Nat) (cells:Array Value),off+n+vs.length<=cells.size->((vs.zipIdx n).foldl (fun cs (x:Value×Nat)=>cs.setIfInBounds (off+x.2) x.1) cells).size=cells.size/\
  ∀k,((vs.zipIdx n).foldl (fun cs (x:Value×Nat)=>cs.setIfInBounds (off+x.2) x.1) cells)[k]? =if off+n<=k/\k<off+n+vs.length then vs[k-(off+n)]? else cells[k]?
 |[],n,off,cells,_=>⟨rfl,fun k=>by simp;intro h1 h2;omega⟩
 |v::r,n,off,cells,h=>by
  simp only[List.length_cons]at h
  obtain⟨h1,h2⟩:=foldl_set r (n+1) off (cells.setIfInBounds (off+n) v) (by simp;omega)
  simp only[List.zipIdx_cons,List.foldl_cons]
  refine⟨by rw[h1];simp,fun k=>?_⟩
  rw[h2 k]
  simp only[List.length_cons]
  by_cases hk:k=off+n
  ·subst hk
   rw[if_neg (by omega),if_pos (by omega)]
   simp[show off+n<cells.size by omega]
  ·by_cases uA:off+n<=k/\k<off+n+(r.length+1)
   ·rw[if_pos (by omega),if_pos uA]
    have:k-(off+n)=(k-(off+(n+1)))+1:=by omega
    rw[this,List.getElem?_cons_succ]
   ·rw[if_neg (by omega),if_neg uA,Array.getElem?_setIfInBounds_ne (by omega)]
theorem ui (place:Nat->Option (Nat×Nat)):∀(ps:List (Nat×Value)) (qs:List (Nat×Nat×AV)) (cells:Array Value) (cs res:List AV),fa P w D ι cs cells->(∀a∈cs,a.cell=true)->ps.length=qs.length->
  (∀(k:Nat) i u o' n x,ps[k]? =some (i,u)->qs[k]? =some (o',n,x)->place i=some (o',n)/\cq P w D ι x u)->cI cs qs=some res->∃iZ,Instr.fill place cells ps=some iZ/\fa P w D ι res iZ/\(∀a∈res,a.cell=true)/\res.length=cs.length:=by
 intro ps
 induction ps with
 |nil=>
  intro qs cells cs res hR hf hl _ hv
  cases qs with
  |nil=>simp[cI]at hv;subst hv;exact⟨cells,rfl,hR,hf,rfl⟩
  |cons q r=>simp at hl
 |cons p ps ih=>
  intro qs cells cs res hR hf hl hp hv
  cases qs with
  |nil=>simp at hl
  |cons q qs=>
   obtain⟨i,u⟩:=p
   obtain⟨oo,n,x⟩:=q
   obtain⟨l7,hr⟩:=hp 0 i u oo n x rfl rfl
   unfold cI at hv
   split at hv
   ·rename_i hc
    obtain⟨c1,c2,c3⟩:=hc
    have hk:=pW hr c3
    have hus:u.cells.size=n:=by rw[hk.1,c1]
    have cR:cells.size=cs.length:=hR.1
    unfold Instr.fill
    simp only[l7]
    rw[if_neg (by rw[hus,cR];simp;omega)]
    obtain⟨s1,s2⟩:=foldl_set u.cells.toList 0 oo cells (by simp;omega)
    have e0:(u.cells.zipIdx.foldl (fun cs (x:Value×Nat)=>cs.setIfInBounds (oo+x.2) x.1) cells)=(u.cells.toList.zipIdx 0).foldl (fun cs (x:Value×Nat)=>cs.setIfInBounds (oo+x.2) x.1) cells:=by
     rw[<-Array.foldl_toList];simp
    have uz:=ih qs (u.cells.zipIdx.foldl (fun cs (x:Value×Nat)=>cs.setIfInBounds (oo+x.2) x.1) cells) (cs.take oo++x.cells++cs.drop (oo+n)) res ?_ ?_ (by simpa using hl) (fun k i u o' n x h1 h2=>hp (k+1) i u o' n x (by simpa using h1) (by simpa using h2)) hv
    ·obtain⟨iZ,h1,h2,h3,h4⟩:=uz
     refine⟨iZ,h1,h2,h3,?_⟩
     rw[h4];simp;omega
    ·rw[e0]
     refine⟨by rw[s1,cR];simp;omega,fun j a ha=>?_⟩
     rw[s2 j]
     simp only[Nat.add_zero,Array.length_toList]
     by_cases hj:oo<=j/\j<oo+u.cells.size
     ·rw[if_pos hj]
      rw[List.append_assoc,List.getElem?_append_right (by simp;omega),List.getElem?_append_left (by simp;omega)]at ha
      simp only[List.length_take]at ha
      rw[show min oo cs.length=oo by omega]at ha
      simpa using hk.2 _ _ ha
     ·rw[if_neg hj]
      by_cases hj2:j<oo
      ·rw[List.append_assoc,List.getElem?_append_left (by simp;omega),List.getElem?_take,if_pos hj2]at ha
       exact hR.2 _ _ ha
      ·rw[List.getElem?_append_right (by simp;omega)]at ha
       simp only[List.length_append,List.length_take,List.getElem?_drop]at ha
       rw[show oo+n+(j-(min oo cs.length+x.cells.length))=j by omega]at ha
       exact hR.2 _ _ ha
    ·intro b hb
     rcases List.mem_append.1 hb with hb|hb
     ·rcases List.mem_append.1 hb with hb|hb
      ·exact hf b (List.mem_of_mem_take hb)
      ·exact List.all_eq_true.1 c3 b hb
     ·exact hf b (List.mem_of_mem_drop hb)
   ·simp at hv
theorem wm {fs:List Field} (h:∀f∈fs,(P.info? f.type).isSome=true):∃yX,fs.mapM (fun f=>(P.info? f.type).map fun i=>(f.offset,i.size))=some yX/\∀(i:Nat) (f:Field) (n:Nat),fs[i]? =some f->dG P f.type=some n->yX[i]? =some (f.offset,n):=by
 induction fs with
 |nil=>exact⟨[],rfl,fun i f n h=>by simp at h⟩
 |cons f r ih=>
  obtain⟨q,h1,h2⟩:=ih (fun x hx=>h x (List.mem_cons_of_mem _ hx))
  obtain⟨i,hi⟩:=Option.isSome_iff_exists.1 (h f (by simp))
  refine⟨(f.offset,i.size)::q,by simp[hi,h1],fun k x n hk hn=>?_⟩
  cases k with
  |zero=>simp at hk;subst hk;simp[dG,hi]at hn;subst hn;rfl
  |succ k=>simp at hk ⊢;exact h2 k x n hk hn
theorem pr {ps:List (Nat×Operand)} {l:List (Nat×O)} (E:bw P w D ι env a) (h:ps.mapM (fun(x:Nat×Operand)=>(cO P x.2).map (x.1,·))=some l):l.length=ps.length/\∀(k i:Nat) (y:O),l[k]? =some (i,y)->∃x,ps[k]? =some (i,x)/\cO P x=some y:=by
 induction ps generalizing l with
 |nil=>simp at h;subst h;simp
 |cons p r ih=>
  simp only[List.mapM_cons,Option.bind_eq_bind,Option.bind_eq_some_iff]at h
  obtain⟨c,hc,pb,cR,h⟩:=h
  simp at h;subst h
  obtain⟨h1,h2⟩:=ih cR
  simp only[Option.map_eq_some_iff]at hc
  obtain⟨y,hy,rfl⟩:=hc
  refine⟨by simp[h1],fun k i z hk=>?_⟩
  cases k with
  |zero=>simp at hk;obtain⟨rfl,rfl⟩:=hk;exact⟨p.2,rfl,hy⟩
  |succ k=>simp at hk ⊢;exact h2 k i z hk
theorem BX {fs:Array Field} {l:List (Nat×O)} {q:List (Nat×Nat×O)} (h:rh P fs l=some q):q.length=l.length/\∀(k oo n:Nat) (y:O),q[k]? =some (oo,n,y)->∃(i:Nat) (f:Field),l[k]? =some (i,y)/\fs[i]? =some f/\f.offset=oo/\dG P f.type=some n:=by
 induction l generalizing q with
 |nil=>simp[rh]at h;subst h;simp
 |cons p r ih=>
  obtain⟨i,x⟩:=p
  unfold rh at h
  split at h
  ·rename_i f hf
   split at h
   ·rename_i n hn
    simp only[Option.map_eq_some_iff]at h
    obtain⟨q',JU,rfl⟩:=h
    obtain⟨h1,h2⟩:=ih JU
    refine⟨by simp[h1],fun k oo m y hk=>?_⟩
    cases k with
    |zero=>simp at hk;obtain⟨rfl,rfl,rfl⟩:=hk;exact⟨i,f,rfl,hf,rfl,hn⟩
    |succ k=>simp only[List.getElem?_cons_succ]at hk ⊢;exact h2 k oo m y hk
   ·simp at h
  ·simp at h
theorem fa.agg {xs:List AV} {vs:Array Value} (h:fa P w D ι xs vs) (hf:∀a∈xs,a.cell=true):cq P w D ι (.agg xs) (.agg vs):=
 .agg xs vs (fun j=>vs.getD j undef) h.1 hf (fun j hj=>by
  have:j<vs.size:=by rw[h.1];exact hj
  simp[this]) (fun j a ha=>by
  obtain⟨u,h1,h2⟩:=h.2 j a ha
  simpa[Array.getD_eq_getD_getElem?,h1]using h2)
theorem KL {t:TypeId} {ps:Array (Nat×Operand)} {fs:Array Field} {z:List K} {l:List (Nat×O)} {q:List (Nat×Nat×O)} {cs:List AV} (E:bw P w D ι env a) (ho:o.op=.build t ps) (ht:P.underlying t=some (.struct fs)) (hz:jt P t=some z) (hl:rm P ps=some l)
  (qp:∀f∈fs.toList,(P.info? f.type).isSome=true) (hq:rh P fs l=some q) (hv:cI (z.map K.av) (q.map fun(o,n,x)=>(o,n,cE env x))=some cs):nB P a o w D ι (.agg cs):=by
 obtain⟨it,zv,hi,uF,hs,hm,Ea⟩:=jH hz
 obtain⟨yX,l7,Sv⟩:=wm qp
 have hk:=kL (P:=P) (w:=w) (D:=D) (ι:=ι) hm
 obtain⟨n1,r1⟩:=pr E hl
 obtain⟨n2,r2⟩:=BX hq
 obtain⟨iZ,h1,h2,h3,_⟩:=ui (P:=P) (w:=w) (D:=D) (ι:=ι) (yX.toArray[·]?) (ps.toList.map fun(i,x)=>(i,a.eval x)) (q.map fun(o,n,x)=>(o,n,cE env x)) zv.cells _ cs (by simpa using hk)
  (fun b hb=>by obtain⟨c,_,rfl⟩:=List.mem_map.1 hb;exact c.mb) (by simp[n2,n1]) (fun k i u o' n x vZ uA=>by
   simp only[List.getElem?_map,Option.map_eq_some_iff]at vZ uA
   obtain⟨⟨i',x'⟩,hp,e1⟩:=vZ
   obtain⟨⟨o2,n',y⟩,JU,e2⟩:=uA
   simp only[Prod.mk.injEq]at e1 e2
   obtain⟨rfl,rfl⟩:=e1
   obtain⟨rfl,rfl,rfl⟩:=e2
   obtain⟨i2,f,Hn,hf,rfl,hn⟩:=r2 _ _ _ _ JU
   obtain⟨x2,zJ,hc⟩:=r1 _ _ _ Hn
   rw[hp]at zJ
   simp only[Option.some.injEq,Prod.mk.injEq]at zJ
   obtain⟨rfl,rfl⟩:=zJ
   exact⟨by simpa using Sv _ _ _ (by simpa using hf) hn,cF E hc⟩) hv
 refine⟨.agg iZ,?_,h2.agg h3⟩
 have hb:P.built t ((ps.map fun(i,x)=>(i,a.eval x)).toList)=some iZ:=by
  unfold Program.built
  simp only[hi,ht,uF,l7]
  simpa using h1
 simp only[execOp,ho,Sem.run_bind,run_build w t _ _ hb,Result.andThen_ok,Sem.run_pure]
theorem IV {t e:TypeId} {len n:Nat} {ps:Array (Nat×Operand)} {z:List K} {l:List (Nat×O)} {cs:List AV} (E:bw P w D ι env a) (ho:o.op=.build t ps) (ht:P.underlying t=some (.array len e)) (hz:jt P t=some z) (hl:rm P ps=some l) (hn:dG P e=some n)
  (hv:cI (z.map K.av) ((l.map fun(x:Nat×O)=>(x.1*n,n,x.2)).map fun(o,n,x)=>(o,n,cE env x))=some cs):nB P a o w D ι (.agg cs):=by
 obtain⟨it,zv,hi,uF,hs,hm,Ea⟩:=jH hz
 have hk:=kL (P:=P) (w:=w) (D:=D) (ι:=ι) hm
 obtain⟨n1,r1⟩:=pr E hl
 obtain⟨ie,DX,e5⟩:∃ie,P.info? e=some ie/\ie.size=n:=by simpa[dG]using hn
 obtain⟨iZ,h1,h2,h3,_⟩:=ui (P:=P) (w:=w) (D:=D) (ι:=ι) (fun i=>some (i*ie.size,ie.size)) (ps.toList.map fun(i,x)=>(i,a.eval x)) ((l.map fun(x:Nat×O)=>(x.1*n,n,x.2)).map fun(o,n,x)=>(o,n,cE env x)) zv.cells _ cs (by simpa using hk)
  (fun b hb=>by obtain⟨c,_,rfl⟩:=List.mem_map.1 hb;exact c.mb) (by simp[n1]) (fun k i u o' n' x vZ uA=>by
   simp only[List.getElem?_map,Option.map_eq_some_iff]at vZ uA
   obtain⟨⟨i',x'⟩,hp,e1⟩:=vZ
   obtain⟨⟨o2,n2,y⟩,⟨⟨i2,y2⟩,Hn,e3⟩,e2⟩:=uA
   simp only[Prod.mk.injEq]at e1 e2 e3
   obtain⟨rfl,rfl⟩:=e1
   obtain⟨rfl,rfl,rfl⟩:=e2
   obtain⟨rfl,rfl,rfl⟩:=e3
   obtain⟨x2,zJ,hc⟩:=r1 _ _ _ Hn
   rw[hp]at zJ
   simp only[Option.some.injEq,Prod.mk.injEq]at zJ
   obtain⟨rfl,rfl⟩:=zJ
   exact⟨by rw[e5],cF E hc⟩) hv
 refine⟨.agg iZ,?_,h2.agg h3⟩
 have hb:P.built t ((ps.map fun(i,x)=>(i,a.eval x)).toList)=some iZ:=by
  unfold Program.built
  simp only[hi,ht,uF,DX]
  simpa using h1
 simp only[execOp,ho,Sem.run_bind,run_build w t _ _ hb,Result.andThen_ok,Sem.run_pure]
theorem uh:∀(vs:List AV) (sz i:Nat) (rs:List (List AV)) (cs:List AV),0<sz->cs.length=(i+vs.length)*sz->rowsOf sz vs=some rs->
  cI cs ((vs.zipIdx i).map fun(v,j)=>(j*sz,sz,v))=some (cs.take (i*sz)++rs.flatten)/\rs.length=vs.length/\(∀c∈rs,c.length=sz)/\∀c∈rs,∀x∈c,x.cell=true
 |[],sz,i,rs,cs,_,hl,h=>by
  simp[rowsOf]at h;subst h
  simp at hl
  simp[cI,List.take_of_length_le (show cs.length<=i*sz by omega)]
 |v::r,sz,i,rs,cs,e5,hl,h=>by
  simp only[rowsOf,Option.bind_eq_some_iff,Option.map_eq_some_iff]at h
  obtain⟨c,hc,rs',xk,rfl⟩:=h
  unfold rowOf at hc
  split at hc
  ·rename_i Al
   simp at hc;subst hc
   obtain⟨pc,yp⟩:=Al
   simp only[List.length_cons]at hl
   have hmul:(i+(r.length+1))*sz=i*sz+sz+r.length*sz:=by rw[Nat.add_mul,Nat.add_mul];omega
   have ih:=uh r sz (i+1) rs' (cs.take (i*sz)++v.cells++cs.drop (i*sz+sz)) e5 (by
    simp[pc];rw[Nat.add_mul,Nat.add_mul];omega) xk
   refine⟨?_,by simp[ih.2.1],?_,?_⟩
   ·simp only[List.zipIdx_cons,List.map_cons,cI]
    rw[if_pos ⟨pc,by omega,yp⟩,ih.1]
    congr 1
    rw[List.flatten_cons,<-List.append_assoc]
    congr 1
    rw[Nat.add_mul,Nat.one_mul,List.take_append_of_le_length (by simp[pc];omega)]
    rw[List.take_of_length_le (by simp[pc];omega)]
   ·intro c' kq;rcases List.mem_cons.1 kq with rfl|kq
    ·exact pc
    ·exact ih.2.2.1 c' kq
   ·intro c' kq;rcases List.mem_cons.1 kq with rfl|kq
    ·exact List.all_eq_true.1 yp
    ·exact ih.2.2.2 c' kq
  ·simp at hc
theorem flat_get {α:Type} {nG:List (List α)} {sz:Nat} (h:∀cs∈nG,cs.length=sz) {i j:Nat} {cs:List α} {a:α} (hi:nG[i]? =some cs) (hj:cs[j]? =some a):nG.flatten[i*sz+j]? =some a:=by
 induction nG generalizing i with
 |nil=>simp at hi
 |cons c r ih=>
  have hc:c.length=sz:=h c (by simp)
  cases i with
  |zero=>
   simp at hi;subst hi
   have dy:=(List.getElem?_eq_some_iff.1 hj).1
   rw[List.flatten_cons,List.getElem?_append_left (by omega)];simpa using hj
  |succ i=>
   rw[List.flatten_cons,List.getElem?_append_right (by rw[hc,Nat.succ_mul];omega)]
   have:(i+1)*sz+j-c.length=i*sz+j:=by rw[hc,Nat.succ_mul];omega
   rw[this]
   exact ih (fun cs cR=>h cs (List.mem_cons_of_mem _ cR)) (by simpa using hi)
theorem G7 {α:Type} {nG:List (List α)} {sz:Nat} (h:∀cs∈nG,cs.length=sz):nG.flatten.length=nG.length*sz:=by
 induction nG with
 |nil=>simp
 |cons c r ih=>
  rw[List.flatten_cons,List.length_append,h c (by simp),ih (fun cs cR=>h cs (List.mem_cons_of_mem _ cR)),List.length_cons,Nat.succ_mul];omega
theorem oq {zv:Value} {z:List K} {n:Nat} (hm:zv.cells.toList.mapM Fp=some z) (kW:0<z.length):∀k,k<n->∃c,z[k % z.length]? =some c/\((Array.range n).map (zv.cells[· % zv.cells.size]!))[k]? =some c.val:=by
 intro k hk
 obtain⟨h1,h2⟩:=qy hm
 have e5:zv.cells.size=z.length:=by simpa using h1.symm
 have dy:k % z.length<z.length:=Nat.mod_lt _ kW
 refine⟨z[k % z.length],List.getElem?_eq_getElem dy,?_⟩
 have h3:=h2 _ _ (List.getElem?_eq_getElem dy)
 simp only[Array.getElem?_toList]at h3
 have Ar:k % z.length<zv.cells.size:=by rw[e5];exact dy
 rw[Array.getElem?_map,Array.getElem?_range,if_pos hk]
 simp only[Option.map_some]
 rw[e5,getElem!_pos zv.cells (k % z.length) Ar]
 rw[Array.getElem?_eq_getElem Ar]at h3
 exact h3
theorem HQ {t e:TypeId} {len sz:Nat} {ps:Array (Nat×Operand)} {z:List K} {l:List (Nat×O)} {rs:List (List AV)} (E:bw P w D ι env a) (ho:o.op=.buildSlice t len ps) (ht:P.underlying t=some (.slice e)) (e5:dG P e=some (sz+1)) (hz:jt P e=some z)
  (hl:rm P ps=some l) (JY:len*(sz+1)<=4096) (Ps:l.map (·.1)=List.range len) (hv:rowsOf (sz+1) (l.map fun x=>cE env x.2)=some rs):Mk P a o w D ι id (.own id 0 len) ⟨true,sz+1,rs⟩:=by
 obtain⟨it,zv,hi,uF,hs,hm,Ea⟩:=jH hz
 have jm:it.size=sz+1:=by simpa[dG,hi]using e5
 obtain⟨n1,r1⟩:=pr E hl
 have MF:l.length=len:=by have:=congrArg List.length Ps;simpa using this
 by_cases h0:len=0
 ·subst h0
  have Aq:l=[]:=List.length_eq_zero_iff.1 MF
  subst Aq
  simp[rowsOf]at hv;subst hv
  have Ob:ps= #[]:=by
   apply Array.ext';apply List.eq_nil_of_length_eq_zero;rw[<-n1];rfl
  subst Ob
  refine⟨.slice (some ⟨w.heap.size,0,none⟩) 0 0, #[],e,?_,rfl,by simp,by simp,by simp,fun i j cs x hi=>by simp at hi,fun ι' hι=>?_⟩
  ·simp[execOp,ho,Instr.buildSlice,run_underlying ht,sizeOf,typeInfo,hi,Instr.fill,newRow,Array.range_zero']
  ·exact .own _ 0 0 0 0 _ hι rfl (Nat.le_refl _) (.inl rfl) (by simp) (by simp[maxLen])
 ·have xn:fa P w D ι ((List.range (len*(sz+1))).map fun k=>(z.getD (k % z.length) .cu).av) ((Array.range (len*(sz+1))).map (zv.cells[· % zv.cells.size]!)):=by
   refine⟨by simp,fun j x hx=>?_⟩
   simp only[List.getElem?_map,Option.map_eq_some_iff]at hx
   obtain⟨k,hk,rfl⟩:=hx
   have kQ:=(List.getElem?_eq_some_iff.1 hk).1
   simp at kQ
   rw[List.getElem?_range kQ]at hk
   injection hk with hk
   subst hk
   obtain⟨c,hc,RU⟩:=oq hm (by rw[Ea,jm];omega) j kQ
   exact⟨c.val,RU,by rw[List.getD_eq_getElem?_getD,hc];exact vm c⟩
  obtain⟨f1,f2,f3,f4⟩:=uh (l.map fun x=>cE env x.2) (sz+1) 0 rs ((List.range (len*(sz+1))).map fun k=>(z.getD (k % z.length) .cu).av) (by omega) (by simp[MF]) hv
  obtain⟨iZ,h1,h2,h3,h4⟩:=ui (P:=P) (w:=w) (D:=D) (ι:=ι) (fun i=>some (i*it.size,it.size)) (ps.toList.map fun(i,x)=>(i,a.eval x)) _ _ _ _ xn
   (fun b hb=>by obtain⟨c,_,rfl⟩:=List.mem_map.1 hb;exact K.mb _) (by simp[n1]) (fun k i u o' n x vZ uA=>by
   simp only[List.getElem?_map,Option.map_eq_some_iff]at vZ uA
   obtain⟨⟨i',x'⟩,hp,e1⟩:=vZ
   obtain⟨⟨v2,j2⟩,JU,e2⟩:=uA
   simp only[Prod.mk.injEq]at e1 e2
   obtain⟨rfl,rfl⟩:=e1
   obtain⟨rfl,rfl,rfl⟩:=e2
   rw[List.getElem?_zipIdx]at JU
   simp only[List.getElem?_map,Option.map_map,Option.map_eq_some_iff,Function.comp_apply,Prod.mk.injEq,Nat.zero_add]at JU
   obtain⟨⟨i2,y⟩,Hn,rfl,rfl⟩:=JU
   obtain⟨x2,zJ,hc⟩:=r1 _ _ _ Hn
   rw[hp]at zJ
   simp only[Option.some.injEq,Prod.mk.injEq]at zJ
   obtain⟨rfl,rfl⟩:=zJ
   have xh:(l.map (·.1))[k]? =some i':=by rw[List.getElem?_map,Hn];rfl
   have kQ:=(List.getElem?_eq_some_iff.1 xh).1
   rw[Ps]at xh
   simp at kQ
   rw[List.getElem?_range (by omega)]at xh
   injection xh with xh
   subst xh
   exact⟨by rw[jm],cF E hc⟩) f1
  simp only[Nat.zero_mul,List.take_zero,List.nil_append,List.length_map]at h2 h3 h4 f2
  have cR:iZ.size=len*(sz+1):=by rw[h2.1,h4];simp
  refine⟨.slice (some ⟨w.heap.size,0,none⟩) len len,iZ,e,?_,rfl,?_,f3,f4,fun i j cs x p9 hj=>h2.2 _ _ (flat_get f3 p9 hj),fun ι' hι=>?_⟩
  ·have fN:=run_buildSlice (P:=P) w t e len (ps.map fun(i,x)=>(i,a.eval x)) iZ it zv ht hi uF (by rw[jm];omega) (by rw[jm];exact Nat.mul_ne_zero h0 (by omega)) (by rw[<-jm]at h1;simpa using h1)
   simp only[execOp,ho,Sem.run_bind,fN,Result.andThen_ok,Sem.run_pure]
  ·dsimp only;rw[f2,MF,cR];exact Nat.le_refl _
  ·refine .own _ 0 len 0 len _ hι rfl (Nat.le_refl _) (.inr (by simp)) ?_ (by simp only[maxLen];have:=Nat.le_mul_of_pos_right len (show 0<sz+1 by omega);omega)
   dsimp only;rw[cR];simp
theorem FE {t e:TypeId} {it:TypeInfo} {m:Nat} {z:List K} {l c:Operand} {l' c':O} {n:Nat} {r:Row} (E:bw P w D ι env a) (ho:o.op=.makeSlice t l c) (ht:P.underlying t=some (.slice e)) (e5:dG P e=some (m+1)) (hz:jt P e=some z) (JO:P.info? e=some it) (hby:it.bytes<=32768)
  (hl:cO P l=some l') (hc:cO P c=some c') (hv:jo z (cE env l') (cE env c')=some (n,r)):Mk P a o w D ι id (.own id 0 n) r:=by
 obtain⟨it',zv,hi,uF,hs,hm,Ea⟩:=jH hz
 rw[JO]at hi;injection hi with hi;subst hi
 have jm:it.size=m+1:=by simpa[dG,JO]using e5
 unfold jo at hv
 split at hv
 ·rename_i k1 ln k2 cn e1 e2
  split at hv
  ·rename_i hb
   obtain⟨b1,b2,b3⟩:=hb
   simp at hv
   obtain⟨rfl,rfl⟩:=hv
   have r1:=cV (e1▸cF E hl)
   have r2:=cV (e2▸cF E hc)
   unfold ea at b3
   have OU:(it.bytes:Int)*cn<=281474976710656:=by
    have h1:(it.bytes:Int)<=32768:=by omega
    have h2:(it.bytes:Int)*cn<=32768*16777216:=Int.mul_le_mul h1 (by omega) (by omega) (by omega)
    omega
   have fN:=run_make (P:=P) w t e it zv ht JO uF k1 k2 ln cn b1 b2 OU (by omega)
   have j4:∀k,k<cn.toNat*it.size->∃x,z[k % z.length]? =some x/\(madeCells zv.cells (cn.toNat*it.size))[k]? =some x.val:=fun k hk=>oq hm (by rw[Ea,jm];omega) k hk
   refine⟨.slice (some ⟨w.heap.size,0,none⟩) ln.toNat cn.toNat,madeCells zv.cells (cn.toNat*it.size),e,by simp only[execOp,ho,r1,r2,Sem.run_bind,fN,Result.andThen_ok,Sem.run_pure],rfl,?_,?_,?_,?_,fun ι' hι=>?_⟩
   ·simp only[List.length_replicate,size_madeCells,Ea]
    exact Nat.mul_le_mul_right _ (by omega)
   ·intro cs cR
    have:=List.eq_of_mem_replicate cR
    subst this;simp
   ·intro cs cR x hx
    have:=List.eq_of_mem_replicate cR
    subst this
    obtain⟨c,_,rfl⟩:=List.mem_map.1 hx;exact c.mb
   ·intro i j cs x p9 hj
    have lv:=(List.getElem?_eq_some_iff.1 p9).1
    have:=List.eq_of_mem_replicate (List.mem_of_getElem? p9)
    subst this
    simp only[List.length_replicate]at lv
    simp only[List.getElem?_map,Option.map_eq_some_iff]at hj
    obtain⟨q,hq,rfl⟩:=hj
    have gm:=(List.getElem?_eq_some_iff.1 hq).1
    dsimp only
    obtain⟨x,hx,zJ⟩:=j4 (i*z.length+j) (by
     rw[<-Ea]
     calc i*z.length+j<i*z.length+z.length:=by omega
      _=(i+1)*z.length:=by rw[Nat.add_mul,Nat.one_mul]
      _<=cn.toNat*z.length:=Nat.mul_le_mul_right _ (by omega))
    rw[Nat.mul_comm i,Nat.mul_add_mod,Nat.mod_eq_of_lt gm,hq]at hx
    injection hx with hx;subst hx
    exact⟨_,by rw[Nat.mul_comm i]at zJ ⊢;exact zJ,vm q⟩
   ·refine .own _ 0 _ 0 _ _ hι rfl (by omega) (.inr (by simp)) ?_ (by simp only[maxLen];omega)
    dsimp only;rw[size_madeCells,Ea];simp
  ·simp at hv
 ·simp at hv
end
end Go.Proofs.YtgoelphibofcmaaGreat.V

namespace Go.Proofs.YtgoelphibofcmaaGreat.V
open Go.RowKit
variable {P:Program} {w w':World} {D D':Nat->Prop} {ι ι':Names}
def Dw (P:Program) (k:TypeId) (m:MK):Prop:=
 (∃s,m=⟨false,[s]⟩/\e7 P k=some s)∨
 (∃fs ts,m=⟨true,ts⟩/\P.underlying k=some (.struct fs)/\dW P 4 0 fs.toList=some ts/\P.stoodInHeld k=false/\∀f∈fs.toList,(e7 P f.type).isSome=true)
theorem qk {t:TypeId} {m:MK} {z:K} (h:rl P t=some (m,z)):∃k e i zv,P.underlying t=some (.map k e)/\P.info? e=some i/\i.zero=some zv/\Fp zv=some z/\Dw P k m:=by
 unfold rl at h
 split at h
 ·rename_i k e ht
  split at h
  ·rename_i zv s h1 h2 h3
   simp only[Option.map_eq_some_iff,Prod.mk.injEq]at h
   obtain⟨z',hz,rfl,rfl⟩:=h
   simp only[Option.bind_eq_some_iff]at h2
   obtain⟨i,hi,uF⟩:=h2
   exact⟨k,e,i,zv,ht,hi,uF,hz,.inl ⟨s,rfl,h3⟩⟩
  ·rename_i zv fs h1 h2 h3 h4
   split at h
   ·rename_i ts z' wD hz
    split at h
    ·rename_i hc
     simp only[Option.some.injEq,Prod.mk.injEq]at h
     obtain⟨rfl,rfl⟩:=h
     simp only[Option.bind_eq_some_iff]at h2
     obtain⟨i,hi,uF⟩:=h2
     simp only[Bool.not_eq_true',List.all_eq_true]at hc
     exact⟨k,e,i,zv,ht,hi,uF,hz,.inr ⟨fs,ts,rfl,h4,wD,hc.1,hc.2⟩⟩
    ·cases h
   ·cases h
  ·cases h
 ·cases h
theorem vw {t:TypeId} {s:TS} (ht:e7 P t=some s) (em:Bool) (n:Nat) (v:Value):(Instr.checkKey em (n+1) t v).run P w=.ok () w:=by
 unfold Instr.checkKey
 cases s with
 |tB=>simp[run_underlying (oG ht)]
 |tS=>simp[run_underlying (oI ht)]
 |tI=>
  obtain⟨q,hq⟩:=oH ht
  simp[run_underlying hq]
theorem vz (em:Bool) (n:Nat) (vs:Array Value):∀(d:Nat) (fs:List Field) (off:Nat) (ts:List TS),dW P (d+1) off fs=some ts->(∀f∈fs,(e7 P f.type).isSome=true)->off+ts.length<=vs.size->
  Sem.run P (forIn fs PUnit.unit fun f (_:PUnit)=>if f.name≠ "_" then do
    let x <-Go.part f.type vs f.offset
    Instr.checkKey em (n+1) f.type x
    pure (ForInStep.yield PUnit.unit)
   else pure (ForInStep.yield PUnit.unit)) w=Result.ok PUnit.unit w
 |d,[],off,ts,_,_,_=>by simp
 |d,f::r,off,ts,hf,hs,hl=>by
  rw[xc]at hf
  split at hf
  ·rename_i hcond
   obtain⟨ho,fY⟩:=hcond
   split at hf
   ·rename_i s Og
    split at hf
    ·rename_i tr
     simp only[Option.map_eq_some_iff]at hf
     obtain⟨Lx,hr,rfl⟩:=hf
     simp only[List.length_cons]at hl
     have ih:=vz em n vs d r (off+1) Lx hr (fun f hf=>hs f (List.mem_cons_of_mem _ hf)) (by omega)
     have hu:vs[off]? =some vs[off]:=by simp
     simp only[List.forIn_cons,Sem.run_bind,if_pos fY,ho,lU tr hu,Result.andThen_ok,vw Og,Sem.run_pure]
     exact ih
    ·cases hf
   ·rename_i hn
    have:=hs f (by simp)
    rw[hn]at this;cases this
  ·cases hf
theorem C5 {k:TypeId} {m:MK} (hk:Dw P k m) (em:Bool) (key:AV) (u:Value) (tr:key.isAgg=m.ka) (hlen:key.cells.length=m.ks) (hr:cq P w D ι key u):(Instr.checkKey em 10000 k u).run P w=.ok () w:=by
 rcases hk with⟨s,rfl,hs⟩|⟨fs,ts,rfl,qp,wD,cK,dC⟩
 ·exact vw hs em 9999 u
 ·cases key<;>simp[AV.isAgg]at tr
  rename_i cs
  obtain⟨vs,f,rfl,h1,_⟩:=jg hr
  unfold Instr.checkKey
  simp only[Sem.run_bind,run_underlying qp,Result.andThen_ok]
  rw[<-Array.forIn_toList]
  have h:=vz (P:=P) (w:=w) em 9998 vs 3 fs.toList 0 ts wD dC (by simp[AV.cells,MK.ks]at hlen;omega)
  rw[h]
  rfl
theorem GH (a b:ByteArray):(a==b)=decide (a=b):=by
 by_cases h:a=b
 ·subst h;rw[decide_eq_true rfl]
  obtain⟨x⟩:=a
  show(x==x)=true
  simp
 ·rw[decide_eq_false h,Bool.eq_false_iff]
  intro hc
  obtain⟨x⟩:=a
  obtain⟨y⟩:=b
  exact h (by rw[show x=y by simpa using(show(x==y)=true from hc)])
theorem Il {t:TypeId} {s:TS} {x y:AV} {u v:Value} {b:Bool} {d:TypeDesc} (ht:e7 P t=some s) (hd:P.underlying t=some d) (he:gP s x y=some b) (hx:cq P w D ι x u) (hy:cq P w D ι y v):Instr.sameNow d u v=some b:=by
 unfold gP at he
 split at he
 ·rename_i k n k' n'
  split at he
  ·rename_i hk
   subst hk
   simp at he;subst he
   obtain⟨q,hq⟩:=oH ht
   rw[hd]at hq;injection hq with hq;subst hq
   rw[cV hx,cV hy]
   simp[Instr.sameNow]
   rfl
  ·cases he
 ·simp at he;subst he
  have hq:=oG ht
  rw[hd]at hq;injection hq with hq;subst hq
  rw[eS hx,eS hy];rfl
 ·rename_i a c
  simp at he;subst he
  have hq:=oI ht
  rw[hd]at hq;injection hq with hq;subst hq
  rw[fm hx,fm hy]
  simp only[Instr.sameNow,GH]
 ·cases he
def Found (es:List MapEntry) (i:Nat) (r:Option Nat) (res:Option (Nat×Value)):Prop:=(r=none/\res=none)∨∃j e,r=some (i+j)/\es[j]? =some e/\res=some (i+j,e.val)
theorem uk {e:MapEntry} {es:List MapEntry} {i:Nat} {r:Option Nat} {res:Option (Nat×Value)} (h:Found es (i+1) r res):Found (e::es) i r res:=by
 rcases h with h|⟨j,x,h1,h2,h3⟩
 ·exact .inl h
 ·exact .inr ⟨j+1,x,by rw[h1];congr 1;omega,by simpa using h2,by rw[h3];congr 2;omega⟩
theorem Ab {t:TypeId} {s:TS} {d:TypeDesc} {x:AV} {u:Value} (ht:e7 P t=some s) (hd:P.underlying t=some d) (hx:cq P w D ι x u):∀(rows:List (List AV)) (es:List MapEntry) (i:Nat) (r:Option Nat),es.length=rows.length->
  (∀(j:Nat) (cs:List AV),rows[j]? =some cs->∃(e:MapEntry) (kv:AV),es[j]? =some e/\cs.head? =some kv/\cq P w D ι kv e.key)->fP ⟨false,[s]⟩ [x] rows i=some r->∃res,Instr.findNow d u es i=some res/\Found es i r res
 |[],[],i,r,_,_,h=>by
  simp[fP]at h;subst h
  exact⟨none,rfl,.inl ⟨rfl,rfl⟩⟩
 |[],e::es,i,r,hl,_,h=>by simp at hl
 |cs::rows,[],i,r,hl,_,h=>by simp at hl
 |cs::rows,e::es,i,r,hl,hr,h=>by
  obtain⟨e',kv,JJ,hk,gj⟩:=hr 0 cs rfl
  simp at JJ;subst JJ
  have cR:cs.take (MK.ks ⟨false,[s]⟩)=[kv]:=by
   cases cs with
   |nil=>simp at hk
   |cons a l=>simp at hk;subst hk;simp[MK.ks]
  unfold fP at h
  rw[cR]at h
  cases hq:gP s x kv with
  |none=>simp[fx,hq]at h
  |some b=>
   have hs:=Il ht hd hq hx gj
   cases b with
   |true=>
    simp[fx,hq]at h;subst h
    exact⟨some (i,e.val),by simp[Instr.findNow,hs],.inr ⟨0,e,rfl,rfl,rfl⟩⟩
   |false=>
    simp[fx,hq]at h
    obtain⟨res,h1,h2⟩:=Ab ht hd hx rows es (i+1) r (by simpa using hl) (fun j cs hj=>hr (j+1) cs (by simpa using hj)) h
    exact⟨res,by simp[Instr.findNow,hs,h1],uk h2⟩
theorem pf {t:TypeId} {fs:Array Field} {ts:List TS} {xs ys:List AV} {vs us:Array Value} {b:Bool} (qp:P.underlying t=some (.struct fs)) (cK:P.stoodInHeld t=false) (wD:dW P 4 0 fs.toList=some ts) (hx:fa P w D ι xs vs) (hy:fa P w D ι ys us) (hv:fx ts xs ys=some b):(Op.equal t (.agg vs) (.agg us)).run P w=.ok b w:=by
 obtain⟨l1,l2⟩:=qo hv
 have q:=qI (w:=w) 4 fs.toList 0 ts wD 9998 (by omega) xs ys vs us b hx hy (by simpa[List.take_of_length_le,l1,l2]using hv)
 have K7:P.fieldsOf t=fs:=by simp[Program.fieldsOf,qp]
 unfold Op.equal
 rw[show Op.maxDepth=9999+1 from rfl,run_equalIn_struct w 9999 t _ _ (by rw[K7];exact qp) cK,K7,q]
theorem qG {cs:List AV} {v:Value} (h:cq P w D ι (.agg cs) v):∃vs,v=.agg vs/\fa P w D ι cs vs:=by
 obtain⟨vs,f,rfl,n1,_,f1,r1⟩:=jg h
 exact⟨vs,rfl,n1,fun j a ha=>⟨f j,f1 j (List.getElem?_eq_some_iff.1 ha).1,r1 j a ha⟩⟩
theorem Aa {t:TypeId} {fs:Array Field} {ts:List TS} {xs:List AV} {vs:Array Value} (qp:P.underlying t=some (.struct fs)) (cK:P.stoodInHeld t=false) (wD:dW P 4 0 fs.toList=some ts) (hx:fa P w D ι xs vs):∀(rows:List (List AV)) (es:List MapEntry) (i:Nat) (r:Option Nat),es.length=rows.length->
  (∀(j:Nat) (cs:List AV),rows[j]? =some cs->∃e:MapEntry,es[j]? =some e/\cq P w D ι (.agg (cs.take ts.length)) e.key)->fP ⟨true,ts⟩ xs rows i=some r->∃res,(Instr.findAsking t (.agg vs) es i).run P w=.ok res w/\Found es i r res
 |[],[],i,r,_,_,h=>by
  simp[fP]at h;subst h
  exact⟨none,by simp[Instr.findAsking],.inl ⟨rfl,rfl⟩⟩
 |[],e::es,i,r,hl,_,h=>by simp at hl
 |cs::rows,[],i,r,hl,_,h=>by simp at hl
 |cs::rows,e::es,i,r,hl,hr,h=>by
  obtain⟨e',JJ,gj⟩:=hr 0 cs rfl
  simp at JJ;subst JJ
  obtain⟨us,hk,hy⟩:=qG gj
  unfold fP at h
  simp only[MK.ks]at h
  split at h
  ·rename_i hq
   simp at h;subst h
   have q:=pf qp cK wD hx hy hq
   exact⟨some (i,e.val),by simp[Instr.findAsking,hk,q],.inr ⟨0,e,rfl,rfl,rfl⟩⟩
  ·rename_i hq
   have q:=pf qp cK wD hx hy hq
   obtain⟨res,h1,h2⟩:=Aa qp cK wD hx rows es (i+1) r (by simpa using hl) (fun j cs hj=>hr (j+1) cs (by simpa using hj)) h
   exact⟨res,by simp[Instr.findAsking,hk,q,h1],uk h2⟩
  ·cases h
theorem uc {a:AV} (h:a.isAgg=false):a.cells=[a]:=by cases a<;>simp_all [AV.isAgg,AV.cells]
theorem uj {k:TypeId} {m:MK} {B:re} {r:Row} (hk:Dw P k m) {key:AV} {u:Value} (hr:cq P w D ι key u) {es:Array MapEntry} (e5:es.size=r.rows.length)
  (hM:∀(i:Nat) (cs:List AV),r.rows[i]? =some cs->∃(e:MapEntry) (kv vv:AV),es[i]? =some e/\part m.ka m.ks cs=some kv/\cs[m.ks]? =some vv/\cq P w D ι kv e.key/\cq P w D ι vv e.val) {fi:Option Nat} (h:fF m key r.rows=some fi):
  (∀em,(Instr.checkKey em 10000 k u).run P w=.ok () w)/\∃res,(Instr.findKey k u es.toList).run P w=.ok res w/\Found es.toList 0 fi res:=by
 unfold fF at h
 split at h
 ·rename_i hc
  obtain⟨c1,c2,c3⟩:=hc
  refine⟨fun em=>C5 hk em key u c1 c2 hr,?_⟩
  rcases hk with⟨s,rfl,hs⟩|⟨fs,ts,rfl,qp,wD,cK,dC⟩
  ·rw[uc c1]at h
   have hd:∃d,P.underlying k=some d:=by
    cases s with
    |tB=>exact⟨_,oG hs⟩
    |tS=>exact⟨_,oI hs⟩
    |tI=>obtain⟨q,hq⟩:=oH hs;exact⟨_,hq⟩
   obtain⟨d,hd⟩:=hd
   obtain⟨res,h1,h2⟩:=Ab hs hd hr r.rows es.toList 0 fi (by simpa using e5) (fun j cs hj=>by
    obtain⟨e,kv,vv,q1,q2,_,q4,_⟩:=hM j cs hj
    exact⟨e,kv,by simpa using q1,by simpa[part]using q2,q4⟩) h
   exact⟨res,by simp[Instr.findKey,run_underlying hd,h1],h2⟩
  ·cases key<;>simp[AV.isAgg]at c1
   rename_i cs
   obtain⟨vs,rfl,hL⟩:=qG hr
   obtain⟨res,h1,h2⟩:=Aa qp cK wD hL r.rows es.toList 0 fi (by simpa using e5) (fun j cs hj=>by
    obtain⟨e,kv,vv,q1,q2,_,q4,_⟩:=hM j cs hj
    unfold part at q2
    simp only[if_true]at q2
    split at q2
    ·simp only[Option.some.injEq]at q2;subst q2
     exact⟨e,by simpa using q1,q4⟩
    ·cases q2) h
   exact⟨res,(run_findKey_eq w (by simp[qp]) _ _).trans h1,h2⟩
 ·cases h
section
variable {g:Rows} {hs:Nat} {env:Env} {a:Act} {o:Oper} {id:Id} {v:AV}
theorem yO {m:MK} {x:AV} {u:Value} {p:Id×Row} (S:fV P hs D ι g w) (hr:cq P w D ι x u) (h:eA g m x=some p):∃B,u=.map (some B.b)/\g p.1=some p.2/\ι p.1=some B/\B.k=some (.map m)/\KT P w D ι B m p.2:=by
 unfold eA at h
 split at h
 ·rename_i i m'
  split at h
  ·rename_i hm
   subst hm
   simp only[Option.map_eq_some_iff]at h
   obtain⟨r,hg,rfl⟩:=h
   obtain⟨B,rfl,hB,hk⟩:=Ek hr
   obtain⟨B',dx,R,_⟩:=S.row i r hg
   rw[hB]at dx;injection dx with dx;subst dx
   exact⟨B,rfl,hg,hB,hk,(R.map _ hk).2⟩
  ·cases h
 ·cases h
theorem NN {t:TypeId} {x k:Operand} {ok:Bool} {m:MK} {z:K} {x' k':O} {mr:Option Row} (S:fV P hs D ι g w) (E:bw P w D ι env a) (ho:o.op=.lookup t x k ok) (hc:rl P t=some (m,z)) (hx:cO P x=some x') (hk:cO P k=some k')
  (hv:bG (.look m ok z) [cE env x',cE env k'] g id=some (v,mr)):mr=none/\nB P a o w D ι v:=by
 obtain⟨kt,e,i,zv,ht,hi,uF,QK,hK⟩:=qk hc
 simp only[bG,Option.bind_eq_some_iff,Option.map_eq_some_iff,Prod.mk.injEq]at hv
 obtain⟨p,hp,fi,Hk,y,hy,rfl,rfl⟩:=hv
 obtain⟨B,hu,hg,hB,tq,es,clock,hb,e5,hlen,hM⟩:=yO S (cF E hx) hp
 obtain⟨I5,res,hf,hF⟩:=uj (B:=B) hK (cF E hk) e5 hM Hk
 have key:∃val,(match res with|some (_,v)=>(v,true)|none=>(zv,false))=(val,fi.isSome)/\cq P w D ι y val:=by
  rcases hF with⟨rfl,rfl⟩|⟨j,en,rfl,he,rfl⟩
  ·simp only[eE,Option.some.injEq]at hy;subst hy
   refine⟨zv,rfl,?_⟩
   rw[yD QK];exact vm z
  ·simp only[eE,Option.bind_eq_some_iff,Nat.zero_add]at hy
   obtain⟨cs,cR,hy⟩:=hy
   obtain⟨e',kv,vv,q1,_,q3,_,q5⟩:=hM _ cs cR
   rw[hy]at q3;injection q3 with q3;subst q3
   have:e'=en:=by
    have h1:es.toList[j]? =some e':=by simpa using q1
    rw[he]at h1;injection h1 with h1;exact h1.symm
   subst this
   exact⟨_,rfl,q5⟩
 obtain⟨val,rK,lg⟩:=key
 have gp:(getObj B.b).run P w=.ok (.map es clock) w:=MapKept.run_getObj_map hb
 have hz:(zeroValue e).run P w=.ok zv w:=by simp[zeroValue,typeInfo,hi,uF]
 refine⟨rfl,if ok then .tuple #[val,.bool fi.isSome]else val,?_,?_⟩
 ·simp only[execOp,ho,hu,Instr.lookup,Sem.run_bind,run_underlying ht,Result.andThen_ok,gp,Sem.run_pure,I5,hf]
  rcases hF with⟨rfl,rfl⟩|⟨j,en,rfl,he,rfl⟩
  ·simp only[Prod.mk.injEq]at rK
   simp[hz,rK.1]
  ·simp only[Prod.mk.injEq]at rK
   simp[rK.1]
 ·cases ok with
  |false=>exact lg
  |true=>
   refine .gN _ _ (fun j=>if j=0 then val else .bool fi.isSome) rfl (fun j hj=>?_) (fun j b hj=>?_)
   ·have:j=0∨j=1:=by simp at hj;omega
    rcases this with rfl|rfl<;>rfl
   ·match j,hj with
    |0,hj=>simp at hj;subst hj;exact lg
    |1,hj=>simp at hj;subst hj;exact .eD _ _ (.bool _)
    |j+2,hj=>simp at hj
theorem NQ {t:TypeId} {x:Operand} {m:MK} {z:K} {x':O} {mr:Option Row} (S:fV P hs D ι g w) (E:bw P w D ι env a) (ho:o.op=.call {callee:=.builtin .len,args:= #[x],argTypes:= #[t]}) (hc:rl P t=some (m,z)) (hx:cO P x=some x')
  (hv:bG (.len m) [cE env x'] g id=some (v,mr)):mr=none/\nB P a o w D ι v:=by
 obtain⟨kt,e,i,zv,ht,hi,uF,QK,hK⟩:=qk hc
 simp only[bG,Option.map_eq_some_iff,Prod.mk.injEq]at hv
 obtain⟨p,hp,rfl,rfl⟩:=hv
 obtain⟨B,hu,hg,hB,tq,es,clock,hb,e5,hlen,hM⟩:=yO S (cF E hx) hp
 have gp:(getObj B.b).run P w=.ok (.map es clock) w:=MapKept.run_getObj_map hb
 refine⟨rfl,.int .i64 (es.size:Int),?_,by rw[e5];exact .eD _ _ (.int _ _)⟩
 simp only[execOp,ho,resolve,Sem.run_bind,Sem.run_pure,Result.andThen_ok,invoke,builtin,Array.map,hu]
 simp[Builtin.len_,run_underlying ht,goInt,hu,gp]
def MkM (P:Program) (a:Act) (o:Oper) (w:World) (id:Id) (v:AV) (r:Row):Prop:=
 ∃m,(execOp a.eval o).run P w=.ok (.value (.map (some w.heap.size))) (w.alloc (.map #[] 0))/\v=.map id m/\r=⟨true,m.nv,[]⟩
theorem PI {t:TypeId} {m:MK} (ho:o.op=.makeMap t none):MkM P a o w id (.map id m) ⟨true,m.nv,[]⟩:=by
 refine⟨m,?_,rfl,rfl⟩
 simp[execOp,ho,Instr.makeMap,go_sem]
def MkC (P:Program) (a:Act) (o:Oper) (w:World) (id:Id) (v:AV) (r:Row):Prop:=
 ∃n,(execOp a.eval o).run P w=.ok (.value (.chan (some w.heap.size))) (w.alloc (.chan n #[] false 0 0 false))/\v=.si id/\r=⟨true,pB+n,[]⟩
theorem M5 {t e:TypeId} {x:Operand} {x':O} {dir:ChanDir} {i:TypeInfo} {n:Nat} (E:bw P w D ι env a) (ho:o.op=.makeChan t x) (ht:P.underlying t=some (.chan dir e)) (hi:P.info? e=some i) (hb:i.bytes<=32768) (hx:cO P x=some x') (hn:dj (cE env x')=some n):MkC P a o w id (.si id) ⟨true,pB+n,[]⟩:=by
 refine⟨n,?_,rfl,rfl⟩
 have hr:=cF E hx
 unfold dj at hn
 split at hn
 ·rename_i k m hm
  rw[hm]at hr
  split at hn
  ·rename_i hc
   simp only[Option.some.injEq]at hn
   subst hn
   have N7:((m.toNat:Nat):Int)=m:=by omega
   have dy:(i.bytes:Int)*(m.toNat:Nat)<=281474976710544:=by
    have h1:i.bytes*m.toNat<=32768*1048576:=Nat.mul_le_mul hb (by omega)
    have h2:((i.bytes*m.toNat:Nat):Int)<=281474976710544:=by omega
    rwa [Int.natCast_mul]at h2
   have h:=Conc.run_makeChan (P:=P) (w:=w) ht hi k m.toNat (by omega) dy
   rw[N7]at h
   simp only[execOp,ho,cV hr,Sem.run_bind,h,Result.andThen_ok,Sem.run_pure]
  ·cases hn
 ·cases hn
theorem x8 {x:AV} {u:Value} {i:Id} {r:Row} (S:fV P hs D ι g w) (hr:cq P w D ι x u) (hx:x=.si i) (hg:g i=some r):∃B c,u=.chan (some B.b)/\ι i=some B/\B.k=some (.chan c)/\r.sz=pB+c/\Gu P w D ι B c r:=by
 subst hx
 obtain⟨B,c,rfl,hB,hk⟩:=Kw hr
 obtain⟨B',dx,R,_⟩:=S.row i r hg
 rw[hB]at dx;injection dx with dx;subst dx
 exact⟨B,c,rfl,hB,hk,R.chan c hk⟩
theorem NK {t e:TypeId} {dir:ChanDir} {x:Operand} {x':O} (S:fV P hs D ι g w) (E:bw P w D ι env a) (ho:o.op=.call {callee:=.builtin .len,args:= #[x],argTypes:= #[t]}) (ht:P.underlying t=some (.chan dir e)) (hx:cO P x=some x') (hv:dh g (cE env x')=some v):nB P a o w D ι v:=by
 have hr:=cF E hx
 unfold dh at hv
 split at hv
 ·rename_i i he
  simp only[Option.map_eq_some_iff]at hv
  obtain⟨r,hg,rfl⟩:=hv
  obtain⟨B,c,hu,hB,hk,e5,buf,s,q,hb,I4,_⟩:=x8 S hr he hg
  have gp:(getObj B.b).run P w=.ok (.chan c buf false s q false) w:=by simp[getObj,Sem.run,hb]
  refine⟨.int .i64 (buf.size:Int),?_,by rw[I4];exact .eD _ _ (.int _ _)⟩
  simp only[execOp,ho,resolve,Sem.run_bind,Sem.run_pure,Result.andThen_ok,invoke,builtin,Array.map,hu]
  simp[Builtin.len_,run_underlying ht,goInt,hu,gp]
 ·cases hv
end
end Go.Proofs.YtgoelphibofcmaaGreat.V

namespace Go.Proofs.YtgoelphibofcmaaGreat.V
open Go.RowKit
variable {P:Program} {w w':World} {D D':Nat->Prop} {ι ι':Names}
def Jm (P:Program) (a:Act) (o:Oper) (w:World) (D:Nat->Prop) (ι:Names) (id:Id) (v:AV):Option Row->Prop
 |none=>nB P a o w D ι v
 |some r=>Mk P a o w D ι id v r∨MkM P a o w id v r∨MkC P a o w id v r
section
variable {g:Rows} {hs:Nat} {env:Env} {a:Act} {o:Oper} {id:Id} {v:AV}
theorem kZ {x:Option AV} {mr:Option Row} (h:x.map (·,(none:Option Row))=some (v,mr)) (H:x=some v->nB P a o w D ι v):Jm P a o w D ι id v mr:=by
 cases x with
 |none=>simp at h
 |some y=>simp at h;obtain⟨rfl,rfl⟩:=h;exact H rfl
theorem PQ {neg:Bool} {t yt:TypeId} {x y:Operand} {vo:fW} {mr:Option Row} (ho:o.op=.binOp (if neg then .neq else .eql) t x y yt) (hc:rj P neg t x y=some vo) (hq:eW vo (cE env) g id=some (v,mr)) (E:bw P w D ι env a):Jm P a o w D ι id v mr:=by
 unfold rj at hc
 split at hc
 ·split at hc
  ·rename_i e ht
   simp only[Option.map_eq_some_iff]at hc
   obtain⟨x',hx,rfl⟩:=hc
   simp only[eW,eK,Bool.false_eq_true,if_false,Option.map_eq_some_iff,Prod.mk.injEq]at hq
   obtain⟨b,hb,rfl,rfl⟩:=hq
   exact NG E ho ht hx hb
  ·simp at hc
 ·split at hc
  ·rename_i ht
   simp only[Option.map_eq_some_iff]at hc
   obtain⟨x',hx,rfl⟩:=hc
   simp only[eW,eK,if_true,Option.map_eq_some_iff,Prod.mk.injEq]at hq
   obtain⟨b,hb,rfl,rfl⟩:=hq
   exact NF E ho ht hx hb
  ·simp at hc
 ·split at hc
  ·rename_i ht
   simp only[Option.map_eq_some_iff]at hc
   obtain⟨x',hx,rfl⟩:=hc
   simp only[eW,Option.map_eq_some_iff,Prod.mk.injEq]at hq
   obtain⟨b,hb,rfl,rfl⟩:=hq
   exact P9 E ho ht hx hb
  ·simp at hc
 ·split at hc
  ·rename_i s hs
   simp only[Option.bind_eq_bind,Option.bind_eq_some_iff,Option.pure_def,Option.some.injEq]at hc
   obtain⟨x',hx,y',hy,rfl⟩:=hc
   simp only[eW,Option.map_eq_some_iff,Prod.mk.injEq]at hq
   obtain⟨b,hb,rfl,rfl⟩:=hq
   have Av:e7 P t=some s:=by
    unfold Rm at hs
    split at hs
    ·rename_i s' h;simp at hs;subst hs;exact h
    ·split at hs
     ·split at hs
      ·simp at hs
      ·simp at hs
     ·simp at hs
   exact Qa E ho Av hx hy hb
  ·rename_i ts hs
   simp only[Option.bind_eq_bind,Option.bind_eq_some_iff,Option.pure_def,Option.some.injEq]at hc
   obtain⟨x',hx,y',hy,rfl⟩:=hc
   simp only[eW]at hq
   split at hq
   ·rename_i xs ys h1 h2
    simp only[Option.map_eq_some_iff,Prod.mk.injEq]at hq
    obtain⟨b,hb,rfl,rfl⟩:=hq
    unfold Rm at hs
    split at hs
    ·simp at hs
    ·split at hs
     ·rename_i fs qp
      split at hs
      ·rename_i hg
       simp only[Option.map_eq_some_iff,Ra.ag.injEq]at hs
       obtain⟨Lx,wD,rfl⟩:=hs
       simp only[Bool.and_eq_true,Bool.not_eq_true']at hg
       exact P8 E ho qp hg.1 hg.2 wD hx hy h1 h2 hb
      ·simp at hs
     ·simp at hs
   ·simp at hq
  ·simp at hc
theorem Nd {c:Call} {vo:fW} {mr:Option Row} (ho:o.op=.call c) (hc:mN P c=some vo) (hq:eW vo (cE env) g id=some (v,mr)) (S:fV P hs D ι g w) (E:bw P w D ι env a):Jm P a o w D ι id v mr:=by
 unfold mN at hc
 split at hc
 ·rename_i j7
  split at hc
  ·rename_i x t h1 h2
   have hce:c={callee:=.builtin .len,args:= #[x],argTypes:= #[t]}:=by
    obtain⟨a,b,c⟩:=c
    simp only at h1 h2 j7
    subst j7
    congr
    ·exact Array.ext' h1
    ·exact Array.ext' h2
   rw[hce]at ho
   split at hc
   ·rename_i e ht
    simp only[Option.map_eq_some_iff]at hc
    obtain⟨x',hx,rfl⟩:=hc
    simp only[eW,Option.map_eq_some_iff,Prod.mk.injEq]at hq
    obtain⟨n,hn,rfl,rfl⟩:=hq
    exact Qb E ho ht hx hn
   ·rename_i ht
    simp only[Option.map_eq_some_iff]at hc
    obtain⟨x',hx,rfl⟩:=hc
    exact kZ hq fun h=>NL E ho ht hx h
   ·split at hc
    ·rename_i m z x' hm hx
     simp only[Option.some.injEq]at hc
     subst hc
     obtain⟨rfl,h⟩:=NQ (id:=id) S E ho hm hx hq
     exact h
    ·cases hc
   ·rename_i ht
    simp only[Option.map_eq_some_iff]at hc
    obtain⟨x',hx,rfl⟩:=hc
    exact kZ hq fun h=>NK S E ho ht hx h
   ·simp at hc
  ·simp at hc
 ·split at hc
  ·split at hc
   ·split at hc
    ·split at hc
     ·simp only[Option.bind_eq_bind,Option.bind_eq_some_iff,Option.pure_def,Option.some.injEq]at hc
      obtain⟨x',hx,y',hy,rfl⟩:=hc
      simp[eW]at hq
     ·simp at hc
    ·simp at hc
   ·simp at hc
  ·simp at hc
 ·split at hc
  ·split at hc
   ·split at hc
    ·simp only[Option.map_eq_some_iff]at hc
     obtain⟨x',hx,rfl⟩:=hc
     simp[eW]at hq
    ·simp at hc
   ·simp at hc
  ·simp at hc
 ·split at hc
  ·simp only[Option.map_eq_some_iff]at hc
   obtain⟨x',hx,rfl⟩:=hc
   simp[eW]at hq
  ·simp at hc
 ·simp only[Option.map_eq_some_iff]at hc
  obtain⟨x',hx,rfl⟩:=hc
  simp[eW]at hq
 ·split at hc
  ·split at hc
   ·simp only[Option.some.injEq]at hc
    subst hc
    simp[eW]at hq
   ·cases hc
  ·cases hc
 ·split at hc
  ·split at hc
   ·split at hc
    ·simp only[Option.bind_eq_bind,Option.bind_eq_some_iff,Option.pure_def,Option.some.injEq]at hc
     obtain⟨x',hx,y',hy,rfl⟩:=hc
     simp[eW]at hq
    ·simp at hc
   ·simp at hc
  ·simp at hc
 ·simp at hc
theorem xJ {vo:fW} {mr:Option Row} (hc:p7 P o.op=some vo) (hq:eW vo (cE env) g id=some (v,mr)) (S:fV P hs D ι g w) (E:bw P w D ι env a):Jm P a o w D ι id v mr:=by
 unfold p7 at hc
 split at hc
 ·rename_i ho
  simp only[Option.map_eq_some_iff]at hc
  obtain⟨x',hx,rfl⟩:=hc
  simp[eW]at hq;obtain⟨rfl,rfl⟩:=hq
  exact Lz E (.inl ho) hx
 ·rename_i ho
  simp only[Option.map_eq_some_iff]at hc
  obtain⟨x',hx,rfl⟩:=hc
  simp[eW]at hq;obtain⟨rfl,rfl⟩:=hq
  exact Lz E (.inr ho) hx
 ·rename_i ho
  simp only[Option.bind_eq_bind,Option.bind_eq_some_iff,Option.pure_def,Option.some.injEq]at hc
  obtain⟨c',h1,x',h2,y',h3,rfl⟩:=hc
  exact kZ hq fun h=>NR E ho h1 h2 h3 h
 ·rename_i ho
  simp only[Option.map_eq_some_iff]at hc
  obtain⟨z,hz,rfl⟩:=hc
  simp only[eW,Option.some.injEq,Prod.mk.injEq]at hq
  obtain⟨rfl,rfl⟩:=hq
  exact .inl (PJ ho hz)
 ·rename_i ho
  simp only[Option.map_eq_some_iff]at hc
  obtain⟨x',hx,rfl⟩:=hc
  simp only[eW,Option.map_eq_some_iff,Prod.mk.injEq]at hq
  obtain⟨cs,cR,rfl,rfl⟩:=hq
  exact .inl (PH E ho hx cR)
 ·rename_i ho
  simp only[Option.bind_eq_bind,Option.bind_eq_some_iff,Option.pure_def,Option.some.injEq]at hc
  obtain⟨ag,h1,n,h2,x',h3,rfl⟩:=hc
  exact kZ hq fun h=>NM S E ho h1 h2 h3 h
 ·rename_i ho
  simp only[Option.bind_eq_bind,Option.bind_eq_some_iff,Option.pure_def,Option.some.injEq]at hc
  obtain⟨n,h2,x',h3,y',h4,rfl⟩:=hc
  simp[eW]at hq
 ·rename_i ho
  simp only[Option.map_eq_some_iff]at hc
  obtain⟨x',hx,rfl⟩:=hc
  exact kZ hq fun h=>P7 E ho hx h
 ·rename_i op t x y yt ho
  unfold tW at hc
  split at hc
  ·exact PQ (neg:=false) ho hc hq E
  ·exact PQ (neg:=true) ho hc hq E
  ·simp only[Option.bind_eq_bind,Option.bind_eq_some_iff,Option.pure_def,Option.some.injEq]at hc
   obtain⟨x',h3,y',h4,rfl⟩:=hc
   exact kZ hq fun h=>Qe (left:=true) E ho h3 h4 h
  ·simp only[Option.bind_eq_bind,Option.bind_eq_some_iff,Option.pure_def,Option.some.injEq]at hc
   obtain⟨x',h3,y',h4,rfl⟩:=hc
   exact kZ hq fun h=>Qe (left:=false) E ho h3 h4 h
  ·rename_i n1 n2 n3 n4
   split at hc
   ·simp only[Option.bind_eq_bind,Option.bind_eq_some_iff,Option.pure_def,Option.some.injEq]at hc
    obtain⟨x',h3,y',h4,rfl⟩:=hc
    exact kZ hq fun h=>P6 E ho n1 n2 h3 h4 h
   ·simp only[Option.bind_eq_bind,Option.bind_eq_some_iff,Option.pure_def,Option.some.injEq]at hc
    obtain⟨x',h3,y',h4,rfl⟩:=hc
    exact kZ hq fun h=>NC E ho n1 n2 h3 h4 h
   ·simp at hc
 ·rename_i ho
  simp only[Option.map_eq_some_iff]at hc
  obtain⟨x',hx,rfl⟩:=hc
  exact kZ hq fun h=>Qd E ho hx h
 ·rename_i ho
  simp only[Option.map_eq_some_iff]at hc
  obtain⟨x',hx,rfl⟩:=hc
  exact kZ hq fun h=>Qc E ho hx h
 ·rename_i ho
  split at hc
  ·rename_i q k h1 h2
   simp only[Option.map_eq_some_iff]at hc
   obtain⟨x',hx,rfl⟩:=hc
   exact kZ hq fun h=>ND E ho h1 h2 hx h
  ·rename_i h1 h2
   simp only[Option.map_eq_some_iff]at hc
   obtain⟨x',hx,rfl⟩:=hc
   exact kZ hq fun h=>by
    have hr:=cF E hx
    unfold cm at h
    split at h
    ·rename_i s hb
     simp at h;subst h
     rw[hb]at hr
     exact⟨.string s,by simp only[execOp,ho,fm hr,convert,Sem.run_bind,run_underlying h1,run_underlying h2,Result.andThen_ok,Sem.run_pure],.eD _ _ (.str _)⟩
    ·simp at h
  ·simp at hc
 ·rename_i ho
  split at hc
  ·rename_i e ht
   simp only[Option.bind_eq_bind,Option.bind_eq_some_iff,Option.pure_def,Option.some.injEq]at hc
   obtain⟨n,h1,x',h2,lo,h3,hi,h4,rfl⟩:=hc
   exact kZ hq fun h=>KP S E ho ht h1 h2 h3 h4 h
  ·rename_i ht
   simp only[Option.bind_eq_bind,Option.bind_eq_some_iff,Option.pure_def,Option.some.injEq]at hc
   obtain⟨x',h2,lo,h3,hi,h4,rfl⟩:=hc
   exact kZ hq fun h=>IW E ho ht h2 h3 h4 h
  ·simp at hc
 ·rename_i ho
  split at hc
  ·rename_i fs qp
   split at hc
   ·rename_i f hf
    split at hc
    ·rename_i m hm
     simp only[Option.map_eq_some_iff]at hc
     obtain⟨x',hx,rfl⟩:=hc
     exact kZ hq fun h=>KM E ho qp hf hm hx h
    ·simp at hc
   ·simp at hc
  ·simp at hc
 ·rename_i ho
  split at hc
  ·rename_i fs qp
   split at hc
   ·rename_i f hf
    simp only[Option.bind_eq_bind,Option.bind_eq_some_iff,Option.pure_def,Option.some.injEq]at hc
    obtain⟨ag,h1,n,h2,x',h3,rfl⟩:=hc
    exact kZ hq fun h=>KN E ho qp hf h1 h2 h3 h
   ·simp at hc
  ·simp at hc
 ·rename_i ho
  split at hc
  ·rename_i e ht
   split at hc
   ·rename_i m hm
    simp only[Option.bind_eq_bind,Option.bind_eq_some_iff,Option.pure_def,Option.some.injEq]at hc
    obtain⟨x',h1,i',h2,rfl⟩:=hc
    exact kZ hq fun h=>KO S E ho ht hm h1 h2 h
   ·simp at hc
  ·rename_i len e ht
   split at hc
   ·rename_i m hm
    simp only[Option.bind_eq_bind,Option.bind_eq_some_iff,Option.pure_def,Option.some.injEq]at hc
    obtain⟨x',h1,i',h2,rfl⟩:=hc
    exact kZ hq fun h=>NH E ho ht hm h1 h2 h
   ·simp at hc
  ·simp at hc
 ·rename_i ho
  split at hc
  ·rename_i ht
   simp only[Option.bind_eq_bind,Option.bind_eq_some_iff,Option.pure_def,Option.some.injEq]at hc
   obtain⟨x',h1,i',h2,rfl⟩:=hc
   exact kZ hq fun h=>NJ E ho ht h1 h2 h
  ·rename_i len e ht
   simp only[Option.bind_eq_bind,Option.bind_eq_some_iff,Option.pure_def,Option.some.injEq]at hc
   obtain⟨ag,h0,n,h1,x',h2,i',h3,rfl⟩:=hc
   exact kZ hq fun h=>NI E ho ht h0 h1 h2 h3 h
  ·simp at hc
 ·rename_i ho
  simp only[Option.map_eq_some_iff]at hc
  obtain⟨x',hx,rfl⟩:=hc
  exact kZ hq fun h=>Ge E ho hx h
 ·rename_i ho
  split at hc
  ·rename_i fs qp
   split at hc
   ·rename_i z l hz hl
    split at hc
    ·rename_i dC
     simp only[Option.map_eq_some_iff]at hc
     obtain⟨q,JU,rfl⟩:=hc
     simp only[eW,Option.map_eq_some_iff,Prod.mk.injEq]at hq
     obtain⟨cs,cR,rfl,rfl⟩:=hq
     exact KL E ho qp hz hl (fun f hf=>by
      rw[Array.all_eq_true_iff_forall_mem]at dC
      exact dC f (Array.mem_toList_iff.1 hf)) JU cR
    ·simp at hc
   ·simp at hc
  ·rename_i len e ht
   split at hc
   ·rename_i z l n hz hl hn
    simp only[Option.some.injEq]at hc
    subst hc
    simp only[eW,Option.map_eq_some_iff,Prod.mk.injEq]at hq
    obtain⟨cs,cR,rfl,rfl⟩:=hq
    exact IV E ho ht hz hl hn cR
   ·simp at hc
  ·simp at hc
 ·rename_i ho
  split at hc
  ·rename_i e ht
   split at hc
   ·rename_i sz z l h1 h2 h3
    split at hc
    ·rename_i hh
     simp only[Option.some.injEq]at hc
     subst hc
     simp only[eW,Option.map_eq_some_iff,Prod.mk.injEq]at hq
     obtain⟨rs,xk,rfl,rfl⟩:=hq
     exact .inl (HQ E ho ht h1 h2 h3 hh.1 hh.2 (by rw[List.map_map]at xk;exact xk))
    ·simp at hc
   ·simp at hc
  ·simp at hc
 ·rename_i ho
  split at hc
  ·rename_i hh
   simp only[Option.map_eq_some_iff]at hc
   obtain⟨l,hl,rfl⟩:=hc
   simp[eW]at hq;obtain⟨rfl,rfl⟩:=hq
   exact NO E ho hh.1 hh.2 hl
  ·split at hc
   ·rename_i hh
    simp only[Option.map_eq_some_iff]at hc
    obtain⟨l,hl,rfl⟩:=hc
    simp[eW]at hq;obtain⟨rfl,rfl⟩:=hq
    exact NP E ho hh.1 hh.2 hl
   ·simp at hc
 ·rename_i ho
  split at hc
  ·rename_i e ht
   split at hc
   ·rename_i m z i h1 h2 h3
    split at hc
    ·rename_i hb
     simp only[Option.bind_eq_bind,Option.bind_eq_some_iff,Option.pure_def,Option.some.injEq]at hc
     obtain⟨l',h4,c',h5,rfl⟩:=hc
     simp only[eW,Option.map_eq_some_iff,Prod.mk.injEq]at hq
     obtain⟨⟨n,r⟩,hr,rfl,rfl⟩:=hq
     exact .inl (FE E ho ht h1 h2 h3 hb h4 h5 hr)
    ·simp at hc
   ·simp at hc
  ·simp at hc
 ·rename_i ho
  exact Nd ho hc hq S E
 ·rename_i ho
  split at hc
  ·rename_i dir e ht
   split at hc
   ·rename_i i hi
    split at hc
    ·rename_i hb
     simp only[Option.map_eq_some_iff]at hc
     obtain⟨x',hx,rfl⟩:=hc
     simp only[eW,Option.map_eq_some_iff,Prod.mk.injEq]at hq
     obtain⟨n,hn,rfl,rfl⟩:=hq
     exact .inr (.inr (M5 E ho ht hi hb hx hn))
    ·cases hc
   ·cases hc
  ·cases hc
 ·simp only[Option.bind_eq_bind,Option.bind_eq_some_iff,Option.pure_def,Option.some.injEq]at hc
  obtain⟨x',_,y',_,rfl⟩:=hc
  simp[eW]at hq
 ·split at hc
  ·split at hc
   ·simp only[Option.map_eq_some_iff]at hc
    obtain⟨x',_,rfl⟩:=hc
    simp[eW]at hq
   ·cases hc
  ·cases hc
 ·rename_i ho
  split at hc
  ·rename_i m z hm
   simp only[Option.some.injEq]at hc
   subst hc
   simp only[eW,List.map_nil,bG,Option.some.injEq,Prod.mk.injEq]at hq
   obtain⟨rfl,rfl⟩:=hq
   exact .inr (.inl (PI ho))
  ·cases hc
 ·rename_i ho
  split at hc
  ·rename_i m z x' k' hm hx hk
   simp only[Option.some.injEq]at hc
   subst hc
   obtain⟨rfl,h⟩:=NN (id:=id) S E ho hm hx hk hq
   exact h
  ·cases hc
 ·split at hc
  ·simp only[Option.some.injEq]at hc
   subst hc
   simp[eW]at hq
  ·cases hc
 ·split at hc
  ·simp only[Option.some.injEq]at hc
   subst hc
   simp[eW]at hq
  ·cases hc
 ·simp only[Option.some.injEq]at hc
  subst hc
  simp[eW]at hq
 ·simp only[Option.some.injEq]at hc
  subst hc
  simp[eW]at hq
 ·simp at hc
end
end Go.Proofs.YtgoelphibofcmaaGreat.V

namespace Go.Proofs.YtgoelphibofcmaaGreat.V
open Go.RowKit
variable {P:Program} {w w':World} {D D':Nat->Prop} {ι ι':Names}
def kb (ι:Names) (id:Id) (B:re):Names:=fun i=>if i=id then some B else ι i
theorem dF (ι:Names) (id:Id) (B:re):kb ι id B id=some B:=if_pos rfl
theorem eU {ι:Names} {id:Id} {B:re} (h:ι id=none):∀i B',ι i=some B'->kb ι id B i=some B':=fun i B' hi=>by
 have:i≠id:=by rintro rfl;rw[h]at hi;cases hi
 rw[kb,if_neg this];exact hi
theorem fR {ι:Names} {id i:Id} {B:re} (h:i≠id):kb ι id B i=ι i:=if_neg h
section
variable {g:Rows} {hs:Nat} {env:Env} {a:Act} {o:Oper} {id:Id} {v:AV}
theorem k6.frame {B:re} {r:Row} (h:k6 P w D ι B r) (hb:w'.heap[B.b]? =w.heap[B.b]?) (hr:∀a v,cq P w D ι a v->cq P w' D' ι' a v):k6 P w' D' ι' B r:=
 ⟨h.sz,by obtain⟨c,T,h1,h2⟩:=h.wY;exact⟨c,T,hb.trans h1,h2⟩,h.fits,h.len,h.flat,fun i j cs a hi hj=>by
  obtain⟨v,h1,h2⟩:=h.at_ i j cs a hi hj
  exact⟨v,(World.cell?_of_block (a:=⟨B.b,i*r.sz+j,none⟩) hb).trans h1,hr _ _ h2⟩⟩
theorem gV.frame {B:re} {r:Row} (h:gV P w D ι B r) (hb:w'.heap[B.b]? =w.heap[B.b]?) (hr:∀a v,cq P w D ι a v->cq P w' D' ι' a v):gV P w' D' ι' B r:=
 ⟨h.sz,h.flat,fun hk=>(h.row hk).frame hb hr,fun m hm=>by
  obtain⟨h1,es,c,h2,h3,h5,h4⟩:=h.map m hm
  refine⟨h1,es,c,hb.trans h2,h3,h5,fun i cs hi=>?_⟩
  obtain⟨e,kv,vv,q1,q2,q3,q4,q5⟩:=h4 i cs hi
  exact⟨e,kv,vv,q1,q2,q3,hr _ _ q4,hr _ _ q5⟩,fun c hc=>by
  obtain⟨h1,buf,s,q,h2,h3,h4⟩:=h.chan c hc
  refine⟨h1,buf,s,q,hb.trans h2,h3,fun i cs hi=>?_⟩
  obtain⟨a,u,q1,q2,q3⟩:=h4 i cs hi
  exact⟨a,u,q1,q2,hr _ _ q3⟩⟩
theorem fV.kill (S:fV P hs D ι g w) (i:Id):fV P hs D ι (cr g i) w:=by
 refine⟨S.lo,S.dead,fun id r h=>?_,fun id jR r r' B B' h h' hw hB dx hb=>?_⟩
 ·unfold cr at h;split at h
  ·cases h
  ·exact S.row id r h
 ·unfold cr at h h'
  split at h
  ·cases h
  ·split at h'
   ·cases h'
   ·exact S.inj id jR r r' B B' h h' hw hB dx hb
theorem fV.sub {g':Rows} (S:fV P hs D ι g w) (h:∀id r,g' id=some r->g id=some r):fV P hs D ι g' w:=
 ⟨S.lo,S.dead,fun id r hr=>S.row id r (h id r hr),fun id jR r r' B B' h1 h2=>S.inj id jR r r' B B' (h _ _ h1) (h _ _ h2)⟩
theorem zp {hid:List Nat} {n:Nat} {g:Rows}:∀id r,gQ hid n g id=some r->g id=some r:=fun id r h=>by
 cases hid with
 |nil=>exact h
 |cons a l=>
  have e:gQ (a::l) n g id=if (a::l).contains id.site=true/\id.aW=n then none else g id:=rfl
  rw[e]at h
  by_cases hc:(a::l).contains id.site=true/\id.aW=n
  ·rw[if_pos hc]at h;cases h
  ·rw[if_neg hc]at h;exact h
theorem fV.stay (S:fV P hs D ι g w) (hb:∀b,b<w.heap.size->w'.heap[b]? =w.heap[b]?) (hz:w.heap.size<=w'.heap.size) (hD:∀b,D b->D' b) (hD':∀b,D' b->b<w'.heap.size) (jZ:∀b,D' b->D b∨w.heap.size<=b) (hι:∀id B,ι id=some B->ι' id=some B):fV P hs D' ι' g w':=by
 have hr:∀a v,cq P w D ι a v->cq P w' D' ι' a v:=fun a v h=>h.frame (fun b hd=>hb b (S.dead b hd)) hD hι
 have lt:∀{id r B},g id=some r->ι id=some B->B.b<w.heap.size:=fun {id r B} h hB=>by
  obtain⟨B',dx,R,_⟩:=S.row id r h
  rw[hB]at dx;injection dx with dx;subst dx
  exact R.lt
 refine⟨Nat.le_trans S.lo hz,hD',fun id r h=>?_,fun id jR r r' B B' h h' hw hB dx he=>?_⟩
 ·obtain⟨B,hB,R,h1,h2⟩:=S.row id r h
  exact⟨B,hι _ _ hB,R.frame (hb _ (lt h hB)) hr,h1,fun hw hd=>by
   rcases jZ _ hd with hd|hd
   ·exact h2 hw hd
   ·have:=lt h hB;omega⟩
 ·obtain⟨C,hC,_⟩:=S.row id r h
  obtain⟨C',s5,_⟩:=S.row jR r' h'
  have e1:=hι _ _ hC
  have e2:=hι _ _ s5
  rw[hB]at e1;injection e1 with e1;subst e1
  rw[dx]at e2;injection e2 with e2;subst e2
  exact S.inj id jR r r' _ _ h h' hw hC s5 he
theorem Step.stay (S:fV P hs D ι g w) (hb:∀b,b<w.heap.size->w'.heap[b]? =w.heap[b]?) (hz:w.heap.size<=w'.heap.size) (e1:w'.os=w.os) (e2:w'.tape=w.tape) (e3:w'.output=w.output) (hD:∀b,D b->D' b) (jZ:∀b,D' b->D b∨w.heap.size<=b) (hι:∀id B,ι id=some B->ι' id=some B):Step hs D ι w D' ι' w':=
 ⟨⟨e1,e2,e3,hz,fun k hk=>hb k (Nat.lt_of_lt_of_le hk S.lo)⟩,fun b hd=>hb b (S.dead b hd),hD,hι,fun b h=>(jZ b h).imp_right (Nat.le_trans S.lo)⟩
theorem fV.alloc (S:fV P hs D ι g w) {cells:Array Value} {T:TypeId} {r:Row} (hh:w'.heap=w.heap.push (.cells cells T (0,0))) (hn:ι id=none) (hw:r.w=true) (h1:r.rows.length*r.sz<=cells.size) (h2:∀cs∈r.rows,cs.length=r.sz) (h3:∀cs∈r.rows,∀a∈cs,a.cell=true)
  (h4:∀i j cs a,r.rows[i]? =some cs->cs[j]? =some a->∃x,cells[i*r.sz+j]? =some x/\cq P w D ι a x):fV P hs D (kb ι id ⟨w.heap.size,r.sz,cells.size,none⟩) (bB g id r) w':=by
 have hb:∀b,b<w.heap.size->w'.heap[b]? =w.heap[b]? :=fun b dy=>by rw[hh,Array.getElem?_push,if_neg (by omega)]
 have hz:w.heap.size<=w'.heap.size:=by rw[hh];simp
 have S':=S.stay (D':=D) (ι':=kb ι id ⟨w.heap.size,r.sz,cells.size,none⟩) hb hz (fun _ h=>h) (fun b hd=>Nat.lt_of_lt_of_le (S.dead b hd) hz) (fun _ h=>.inl h) (eU hn)
 have hr:∀a v,cq P w D ι a v->cq P w' D (kb ι id ⟨w.heap.size,r.sz,cells.size,none⟩) a v:=fun a v h=>h.frame (fun b hd=>hb b (S.dead b hd)) (fun _ h=>h) (eU hn)
 have jZ:w'.heap[w.heap.size]? =some (.cells cells T (0,0)):=by rw[hh];simp
 have gone:g id=none:=by
  cases hg:g id with
  |none=>rfl
  |some q=>
   obtain⟨B,hB,_⟩:=S.row id q hg
   rw[hn]at hB;cases hB
 have lt:∀{i q B},g i=some q->ι i=some B->B.b<w.heap.size:=fun {i q B} h hB=>by
  obtain⟨B',dx,R,_⟩:=S.row i q h
  rw[hB]at dx;injection dx with dx;subst dx
  exact R.lt
 refine⟨S'.lo,S'.dead,fun i q h=>?_,fun i i' q q' B B' h h' Hw hB dx he=>?_⟩
 ·unfold bB at h
  split at h
  ·rename_i e
   subst e
   injection h with h;subst h
   refine⟨_,dF _ _ _,k6.obj ⟨rfl,⟨cells,T,jZ,rfl⟩,h1,h2,h3,fun k j cs a hk hj=>?_⟩ rfl,fun _=>S.lo,fun _ hd=>?_⟩
   ·obtain⟨x,hx,hrx⟩:=h4 k j cs a hk hj
    exact⟨x,by simp[World.cell?,jZ,hx],hr _ _ hrx⟩
   ·have:=S.dead _ hd;simp at this
  ·exact S'.row i q h
 ·unfold bB at h h'
  split at h
  ·rename_i e
   split at h'
   ·rename_i e';exact e.trans e'.symm
   ·exfalso
    rename_i e'
    subst e
    rw[dF]at hB;injection hB with hB;subst hB
    rw[fR e']at dx
    have:=lt h' dx
    simp at he;omega
  ·rename_i e
   split at h'
   ·exfalso
    rename_i e'
    subst e'
    rw[dF]at dx;injection dx with dx;subst dx
    rw[fR e]at hB
    have:=lt h hB
    simp at he;omega
   ·exact S'.inj i i' q q' B B' h h' Hw hB dx he
theorem fV.put (S:fV P hs D ι g w) {r r':Row} {B:re} {cur cur':Array Value} {T:TypeId} (hid:g id=some r) (hw:r.w=true) (hB:ι id=some B) (hblk:w.heap[B.b]? =some (.cells cur T (0,0))) (e5:cur'.size=cur.size)
  (h0:r'.w=true) (h1:r'.sz=r.sz) (h2:r'.rows.length*r'.sz<=B.C) (h3:∀cs∈r'.rows,cs.length=r'.sz) (h4:∀cs∈r'.rows,∀a∈cs,a.cell=true)
  (h5:∀i j cs a,r'.rows[i]? =some cs->cs[j]? =some a->∃v,cur'[i*r.sz+j]? =some v/\cq P w D ι a v):fV P hs D ι (bB g id r') (w.setRow B.b cur')/\Step hs D ι w D ι (w.setRow B.b cur'):=by
 obtain⟨B0,Aj,RO,jV,oy⟩:=S.row id r hid
 rw[hB]at Aj;injection Aj with Aj;subst Aj
 have vY:=RO.Kk hblk
 have R:=RO.row vY
 have hd:∀b,D b->(w.setRow B.b cur').heap[b]? =w.heap[b]? :=fun b hb=>setRow_other w B.b b cur' (by rintro rfl;exact oy hw hb)
 have hr:∀a v,cq P w D ι a v->cq P (w.setRow B.b cur') D ι a v:=fun a v h=>h.frame hd (fun _ h=>h) (fun _ _ h=>h)
 have hC:cur.size=B.C:=by
  obtain⟨c,T',h1,h2⟩:=R.wY
  rw[hblk]at h1;injection h1 with h1;injection h1 with h1 Mc;subst h1;exact h2
 refine⟨⟨by simpa using S.lo,fun b hb=>by simpa using S.dead b hb,fun i q h=>?_,fun i i' q q' C C' h h' Hw hC s5 he=>?_⟩,⟨⟨by simp,by simp,by simp,by simp,fun k hk=>setRow_other w B.b k cur' (by have:=jV hw;omega)⟩,hd,fun _ h=>h,fun _ _ h=>h,fun _ h=>.inl h⟩⟩
 ·unfold bB at h
  split at h
  ·rename_i e
   subst e
   injection h with h;subst h
   refine⟨B,hB,k6.obj ⟨by rw[h1];exact R.sz,⟨cur',T,setRow_heap w B.b cur cur' T _ hblk,by rw[e5];exact hC⟩,h2,h3,h4,fun k j cs a hk hj=>?_⟩ vY,fun _=>jV hw,fun _=>oy hw⟩
   obtain⟨v,hv,lg⟩:=h5 k j cs a hk hj
   exact⟨v,by rw[cell_setRow_same w B.b _ cur cur' T _ hblk,h1];exact hv,hr _ _ lg⟩
  ·rename_i e
   obtain⟨C,hC,RC,k1,k2⟩:=S.row i q h
   refine⟨C,hC,RC.frame (setRow_other w B.b C.b cur' (fun OU=>e ?_)) hr,k1,k2⟩
   exact(S.inj id i r q B C hid h hw hB hC OU.symm).symm
 ·unfold bB at h h'
  have get:∀j p,(if j=id then some r' else g j)=some p->∃p0,g j=some p0/\(p.w=true->p0.w=true):=fun j p hp=>by
   split at hp
   ·rename_i e;subst e;injection hp with hp;subst hp;exact⟨r,hid,fun _=>hw⟩
   ·exact⟨p,hp,fun h=>h⟩
  obtain⟨p,hp,Oc⟩:=get _ _ h
  obtain⟨p',MJ,_⟩:=get _ _ h'
  exact S.inj i i' p p' C C' hp MJ (Oc Hw) hC s5 he
theorem fV.rename (S:fV P hs D ι g w) {i:Id} {r:Row} {B:re} (hi:g i=some r) (hw:r.w=true) (hB:ι i=some B) (hn:ι id=none):fV P hs D (kb ι id B) (bB (cr g i) id r) w:=by
 have S':=S.stay (w':=w) (D':=D) (ι':=kb ι id B) (fun _ _=>rfl) (Nat.le_refl _) (fun _ h=>h) S.dead (fun _ h=>.inl h) (eU hn)
 have fY:i≠id:=by rintro rfl;rw[hn]at hB;cases hB
 obtain⟨B1,DR,R,k1,k2⟩:=S'.row i r hi
 rw[fR fY,hB]at DR;injection DR with DR;subst DR
 have get:∀j p,bB (cr g i) id r j=some p->(j=id/\p=r)∨(j≠id/\j≠i/\g j=some p):=fun j p hp=>by
  unfold bB cr at hp
  split at hp
  ·rename_i e;injection hp with hp;exact .inl ⟨e,hp.symm⟩
  ·rename_i e
   split at hp
   ·cases hp
   ·rename_i e';exact .inr ⟨e,e',hp⟩
 refine⟨S.lo,S.dead,fun j p h=>?_,fun j j' p p' C C' h h' Oc hC s5 he=>?_⟩
 ·rcases get j p h with⟨rfl,rfl⟩|⟨_,_,hp⟩
  ·exact⟨B,dF _ _ _,R,k1,k2⟩
  ·exact S'.row j p hp
 ·rcases get j p h with⟨rfl,rfl⟩|⟨q1,q2,hp⟩
  ·rcases get j' p' h' with⟨rfl,rfl⟩|⟨q1',q2',MJ⟩
   ·rfl
   ·exfalso
    rw[dF]at hC;injection hC with hC;subst hC
    rw[fR q1']at s5
    exact q2' (S.inj i j' p p' B C' hi MJ hw hB s5 he).symm
  ·rcases get j' p' h' with⟨rfl,rfl⟩|⟨q1',q2',MJ⟩
   ·exfalso
    rw[dF]at s5;injection s5 with s5;subst s5
    rw[fR q1]at hC
    exact q2 (S.inj j i p p' C B hp hi Oc hC hB he)
   ·rw[fR q1]at hC
    rw[fR q1']at s5
    exact S.inj j j' p p' C C' hp MJ Oc hC s5 he
def BI (P:Program) (hs:Nat) (a:Act) (o:Oper) (w:World) (D:Nat->Prop) (ι:Names) (id:Id) (v:AV) (g':Rows):Prop:=
 ∃u w' ι',((execOp a.eval o).run P w=.ok (.value u) w'∨(execOp a.eval o).run P w=.ok .skip w'/\u=undef)/\Step hs D ι w D ι' w'/\fV P hs D ι' g' w'/\cq P w' D ι' v u/\∀i,i≠id->ι' i=ι i
theorem A6 {xs:List AV} {vs:Array Value} (h:fa P w D ι xs vs) (hf:∀a∈xs,a.cell=true):∀v∈vs.toList,v.oneCell'=true:=by
 intro v hv
 obtain⟨j,hj,rfl⟩:=List.getElem_of_mem hv
 have I8:j<xs.length:=by rw[<-h.1];simpa using hj
 obtain⟨u,hu,hr⟩:=h.2 j _ (List.getElem?_eq_getElem I8)
 have hc:=hr.zX (hf _ (List.getElem_mem I8))
 have:vs.toList[j]=u:=by
  have:vs.toList[j]? =some u:=by simpa using hu
  rw[List.getElem?_eq_getElem hj]at this;injection this
 rw[this]
 cases u<;>simp_all [Value.oneCell']
theorem jC {i j n m:Nat} (h:i<n) (hj:j<m):i*m+j<n*m:=by
 have:(i+1)*m<=n*m:=Nat.mul_le_mul_right _ h
 rw[Nat.add_mul,Nat.one_mul]at this;omega
theorem k6.cur {B:re} {r:Row} (R:k6 P w D ι B r):∃cur T,w.heap[B.b]? =some (.cells cur T (0,0))/\cur.size=B.C/\∀i j cs a,r.rows[i]? =some cs->cs[j]? =some a->∃v,cur[i*r.sz+j]? =some v/\cq P w D ι a v:=by
 obtain⟨cur,T,h1,h2⟩:=R.wY
 refine⟨cur,T,h1,h2,fun i j cs a hi hj=>?_⟩
 obtain⟨v,hv,hr⟩:=R.at_ i j cs a hi hj
 exact⟨v,by simpa[World.cell?,h1]using hv,hr⟩
theorem JA {t:TypeId} {n:Nat} {x y:Operand} {x' y':O} {g':Rows} (S:fV P hs D ι g w) (E:bw P w D ι env a) (ho:o.op=.store t x y) (hn:dG P t=some n) (hx:cO P x=some x') (hy:cO P y=some y')
  (hv:bV g n (cE env y') (cE env x')=some g'):BI P hs a o w D ι id .undef g':=by
 have rx:=cF E hx
 have ry:=cF E hy
 unfold bV at hv
 split at hv
 ·rename_i i k off hp
  rw[hp]at rx
  simp only[Option.bind_eq_some_iff]at hv
  obtain⟨r,hg,cs,cR,hv⟩:=hv
  split at hv
  ·rename_i hc
   obtain⟨c1,c2,c3,c4⟩:=hc
   simp at hv;subst hv
   obtain⟨B,he,hB,hk⟩:=iq rx
   obtain⟨B',dx,R,jV,oy⟩:=S.row i r hg
   rw[hB]at dx;injection dx with dx;subst dx
   replace R:=R.row hk
   obtain⟨cur,T,hblk,hC,uv⟩:=R.cur
   have hL:=pW ry c3
   have h1:=A6 hL (List.all_eq_true.1 c3)
   have J1:(a.eval y).cells.size=n:=by rw[hL.1,c2]
   have kQ:=(List.getElem?_eq_some_iff.1 cR).1
   have hlen:=R.len cs (List.mem_of_getElem? cR)
   have hbound:k*r.sz+r.sz<=r.rows.length*r.sz:=by
    have:(k+1)*r.sz<=r.rows.length*r.sz:=Nat.mul_le_mul_right _ kQ
    rwa [Nat.add_mul,Nat.one_mul]at this
   have hf:=R.fits
   have cK:=run_storeCells_at P B.b (k*B.sz+off) T (a.eval y).cells.toList 0 cur w hblk (by rw[R.sz];simp only[Array.length_toList];omega) h1
   simp only[Nat.add_zero,Array.length_toList]at cK
   have uD:=S.put (r':={r with rows:=r.rows.set k (cU cs off (cE env y').cells)}) hg c1 hB hblk (cur':=(cur.toList.take (k*B.sz+off)++(a.eval y).cells.toList++cur.toList.drop (k*B.sz+off+(a.eval y).cells.size)).toArray)
    (by rw[R.sz];simp;omega) c1 rfl (by simpa using R.fits) (fun c RS=>by
     rcases List.mem_or_eq_of_mem_set RS with h|rfl
     ·exact R.len c h
     ·simp[cU];omega) (fun c RS b hb=>by
     rcases List.mem_or_eq_of_mem_set RS with h|rfl
     ·exact R.flat c h b hb
     ·unfold cU at hb
      rcases List.mem_append.1 hb with hb|hb
      ·rcases List.mem_append.1 hb with hb|hb
       ·exact R.flat cs (List.mem_of_getElem? cR) b (List.mem_of_mem_take hb)
       ·exact List.all_eq_true.1 c3 b hb
      ·exact R.flat cs (List.mem_of_getElem? cR) b (List.mem_of_mem_drop hb)) (fun i2 j c b xg hj=>by
     rw[R.sz]
     simp only[List.getElem?_toArray]
     by_cases xh:i2=k
     ·subst xh
      rw[List.getElem?_set_self kQ]at xg
      injection xg with xg;subst xg
      unfold cU at hj
      by_cases hjo:j<off
      ·rw[List.append_assoc,List.getElem?_append_left (by simp;omega),List.getElem?_take,if_pos hjo]at hj
       rw[List.append_assoc,List.getElem?_append_left (by simp;omega),List.getElem?_take,if_pos (by omega)]
       simpa using uv _ _ _ _ cR hj
      ·by_cases nq:j<off+n
       ·rw[List.append_assoc,List.getElem?_append_right (by simp;omega),List.getElem?_append_left (by simp;omega)]at hj
        rw[List.append_assoc,List.getElem?_append_right (by simp;omega),List.getElem?_append_left (by simp;omega)]
        simp only[List.length_take]at hj ⊢
        rw[show j-min off cs.length=j-off by omega]at hj
        rw[show i2*r.sz+j-min (i2*r.sz+off) cur.toList.length=j-off by simp;omega]
        simpa using hL.2 _ _ hj
       ·rw[List.getElem?_append_right (by simp;omega)]at hj
        rw[List.getElem?_append_right (by simp;omega)]
        simp only[List.length_append,List.length_take,List.getElem?_drop,Array.length_toList]at hj ⊢
        rw[show off+(cE env y').cells.length+(j-(min off cs.length+(cE env y').cells.length))=j by omega]at hj
        rw[show i2*r.sz+off+(a.eval y).cells.size+(i2*r.sz+j-(min (i2*r.sz+off) cur.size+(a.eval y).cells.size))=i2*r.sz+j by omega]
        simpa using uv _ _ _ _ cR hj
     ·rw[List.getElem?_set_ne (fun e=>xh e.symm)]at xg
      have hi2l:=(List.getElem?_eq_some_iff.1 xg).1
      have gm:j<r.sz:=by rw[<-R.len c (List.mem_of_getElem? xg)];exact(List.getElem?_eq_some_iff.1 hj).1
      have:=uv _ _ _ _ xg hj
      rcases Nat.lt_or_gt_of_ne xh with dy|JM
      ·have h2:i2*r.sz+j<k*r.sz:=jC dy gm
       rw[List.append_assoc,List.getElem?_append_left (by simp;omega),List.getElem?_take,if_pos (by omega)]
       simpa using this
      ·have h2:k*r.sz+r.sz<=i2*r.sz:=by
        have:(k+1)*r.sz<=i2*r.sz:=Nat.mul_le_mul_right _ JM
        rwa [Nat.add_mul,Nat.one_mul]at this
       rw[List.getElem?_append_right (by simp;omega)]
       simp only[List.length_append,List.length_take,List.getElem?_drop,Array.length_toList]
       rw[show k*r.sz+off+(a.eval y).cells.size+(i2*r.sz+j-(min (k*r.sz+off) cur.size+(a.eval y).cells.size))=i2*r.sz+j by omega]
       simpa using this)
   refine⟨undef,_,ι,.inr ⟨?_,rfl⟩,uD.2,uD.1,cq.undef,fun _ _=>rfl⟩
   simp only[execOp,ho,he,Instr.storeAt,Instr.sureAddr,storeVar,Sem.run_bind,Sem.run_pure,Result.andThen_ok,run_sizeOf hn,J1,ne_eq,not_true_eq_false,if_false,cK]
  ·simp at hv
 ·simp at hv
end
end Go.Proofs.YtgoelphibofcmaaGreat.V

namespace Go.Proofs.YtgoelphibofcmaaGreat.V
open Go.RowKit
variable {P:Program} {w w':World} {D D':Nat->Prop} {ι ι':Names}
section
variable {g:Rows} {hs:Nat} {env:Env} {a:Act} {o:Oper} {id:Id} {v:AV}
theorem qH (S:fV P hs D ι g w) {y:AV} {u:Value} {ys:List (List AV)} {sz:Nat} (hr:cq P w D ι y u) (hy:bE g y=some ys) (hl:∀c∈ys,c.length=sz) (hf:∀c∈ys,∀b∈c,b.cell=true):
  ∃A c,u=.slice A ys.length c/\(ys=[]∨∃b o,∃news:List Value,A=some ⟨b,o,none⟩/\news.length=ys.length*sz/\(∀j v,news[j]? =some v->w.cell? ⟨b,o+j,none⟩=some v)/\fa P w D ι ys.flatten news.toArray/\∀v∈news,v.oneCell'=true):=by
 have fin:∀b o,ys≠[]->(∀i j cs x,ys[i]? =some cs->cs[j]? =some x->∃v,w.cell? ⟨b,o+(i*sz+j),none⟩=some v/\cq P w D ι x v)->
   ∃news:List Value,news.length=ys.length*sz/\(∀j v,news[j]? =some v->w.cell? ⟨b,o+j,none⟩=some v)/\fa P w D ι ys.flatten news.toArray/\∀v∈news,v.oneCell'=true:=by
  intro b o _ h
  have hlen:=G7 hl
  have at_:∀k,k<ys.length*sz->∃x,ys.flatten[k]? =some x/\∃v,w.cell? ⟨b,o+k,none⟩=some v/\cq P w D ι x v:=by
   intro k hk
   have kW:0<sz:=by
    rcases Nat.eq_zero_or_pos sz with h0|h0
    ·subst h0;simp at hk
    ·exact h0
   have hi:k / sz<ys.length:=Nat.div_lt_of_lt_mul (by rw[Nat.mul_comm];exact hk)
   have hj:k % sz<sz:=Nat.mod_lt _ kW
   have cR:=List.getElem?_eq_getElem hi
   have gm:k % sz<ys[k / sz].length:=by rw[hl _ (List.getElem_mem hi)];exact hj
   have hx:=List.getElem?_eq_getElem gm
   have e:k / sz*sz+k % sz=k:=by rw[Nat.mul_comm];exact Nat.div_add_mod _ _
   refine⟨_,by rw[<-flat_get hl cR hx,e],?_⟩
   obtain⟨v,hv,lg⟩:=h _ _ _ _ cR hx
   rw[e]at hv
   exact⟨v,hv,lg⟩
  let news:=(List.range (ys.length*sz)).map fun k=>(w.cell? ⟨b,o+k,none⟩).getD undef
  have hn:∀k,k<ys.length*sz->∀v,w.cell? ⟨b,o+k,none⟩=some v->news[k]? =some v:=fun k hk v hv=>by
   simp only[news,List.getElem?_map,List.getElem?_range hk,Option.map_some,hv,Option.getD_some]
  have hR:fa P w D ι ys.flatten news.toArray:=⟨by simp[news,hlen],fun j x hx=>by
   have gm:=(List.getElem?_eq_some_iff.1 hx).1
   rw[hlen]at gm
   obtain⟨x',sG,v,hv,lg⟩:=at_ j gm
   rw[hx]at sG;injection sG with sG;subst sG
   exact⟨v,by simpa using hn j gm v hv,lg⟩⟩
  refine⟨news,by simp[news],fun j v hj=>?_,hR,?_⟩
  ·have gm:j<ys.length*sz:=by have:=(List.getElem?_eq_some_iff.1 hj).1;simpa[news]using this
   obtain⟨x,_,v',ns,_⟩:=at_ j gm
   rw[hn j gm v' ns]at hj
   injection hj with hj
   rw[<-hj];exact ns
  ·have:=A6 hR (fun x hx=>by
    obtain⟨c,hc,SH⟩:=List.mem_flatten.1 hx
    exact hf c hc x SH)
   simpa using this
 unfold bE at hy
 split at hy
 ·simp at hy;subst hy
  exact⟨none,0,jT hr,.inl rfl⟩
 ·rename_i rows
  simp at hy;subst hy
  obtain⟨A,c,he,_,_,h3⟩:=vp hr
  refine⟨A,c,he,?_⟩
  rcases h3 with h3|⟨b,oo,sz',vs,rfl,hD,Ja,_,hc,hi⟩
  ·exact .inl h3
  ·by_cases h0:rows=[]
   ·exact .inl h0
   ·have Av:sz'=sz:=by
     cases rows with
     |nil=>exact(h0 rfl).elim
     |cons c r=>rw[<-Ja c (by simp),hl c (by simp)]
    subst Av
    obtain⟨news,q1,q2,q3,q4⟩:=fin b oo h0 (fun i j cs x cR hx=>⟨_,hc i j (List.getElem?_eq_some_iff.1 cR).1 (by rw[<-Ja cs (List.mem_of_getElem? cR)];exact(List.getElem?_eq_some_iff.1 hx).1),.eD _ _ (hi i j cs x cR hx)⟩)
    exact .inr ⟨b,oo,news,rfl,q1,q2,q3,q4⟩
 ·rename_i i off len
  simp only[Option.bind_eq_some_iff]at hy
  obtain⟨r,hg,hy⟩:=hy
  split at hy
  ·rename_i hle
   simp at hy;subst hy
   obtain⟨oo,cap,B,he,hB,h1,h2,h3,h4,hk⟩:=iF hr
   obtain⟨B',dx,R,_,_⟩:=S.row i r hg
   rw[hB]at dx;injection dx with dx;subst dx
   replace R:=R.row hk
   have hlen:((r.rows.drop off).take len).length=len:=by simp;omega
   refine⟨some ⟨B.b,oo,none⟩,cap,by rw[hlen];exact he,?_⟩
   by_cases h0:(r.rows.drop off).take len=[]
   ·exact .inl h0
   ·have Av:r.sz=sz:=by
     cases hq:(r.rows.drop off).take len with
     |nil=>exact(h0 hq).elim
     |cons c q=>
      have hm:c∈(r.rows.drop off).take len:=by rw[hq];simp
      rw[<-hl c hm,R.len c (List.mem_of_mem_drop (List.mem_of_mem_take hm))]
    have hlp:0<len:=by rw[<-hlen];exact List.length_pos_iff.2 h0
    have By:oo=off*B.sz:=by rcases h2 with h2|h2<;>omega
    obtain⟨news,q1,q2,q3,q4⟩:=fin B.b oo h0 (fun i2 j cs x cR hx=>by
     rw[List.getElem?_take]at cR
     split at cR
     ·rw[List.getElem?_drop]at cR
      obtain⟨v,hv,lg⟩:=R.at_ _ _ _ _ cR hx
      refine⟨v,?_,lg⟩
      rw[By,R.sz,<-Av]
      rw[Nat.add_mul]at hv
      rw[<-Nat.add_assoc]
      exact hv
     ·simp at cR)
    exact .inr ⟨B.b,oo,news,rfl,q1,q2,q3,q4⟩
  ·simp at hy
 ·simp at hy
theorem oa {t ty e:TypeId} {i:TypeInfo} (ht:P.underlying t=some (.slice e)) (hi:P.info? e=some i) (A:Option Addr) (n c:Nat) (hn:n<=c) (B:Option Addr) (d:Nat):
  (Builtin.append_ #[t,t] ty #[.slice A n c,.slice B 0 d]).run P w=.ok (.slice A n c) w:=by
 have hf:(Builtin.firstCells i.size 0 (.slice B 0 d)).run P w=.ok #[] w:=by
  cases B<;>simp[Builtin.firstCells,loadCells,loadCellsFrom]
 cases A with
 |none=>simp[Builtin.append_,run_underlying ht,sizeOf,typeInfo,hi,Builtin.lenOf,hn,hf]
 |some A=>simp[Builtin.append_,run_underlying ht,sizeOf,typeInfo,hi,Builtin.lenOf,hn,hf,storeCells]
theorem wJ {t ty e T:TypeId} {i:TypeInfo} (ht:P.underlying t=some (.slice e)) (hi:P.info? e=some i) (b qK C6:Nat) (cur:Array Value) (hg:w.heap[b]? =some (.cells cur T (0,0)))
  (x:Addr) (m c:Nat) (news:List Value) (hl:news.length=m*i.size) (Pm:∀j u,news[j]? =some u->w.cell? (x.add j)=some u) (h1:∀u∈news,u.oneCell'=true)
  (fU:qK+m<=C6) (Ao:qK*i.size+news.length<=cur.size):
  (Builtin.append_ #[t,t] ty #[.slice (some ⟨b,0,none⟩) qK C6,.slice (some x) m c]).run P w=
   .ok (.slice (some ⟨b,0,none⟩) (qK+m) C6) (w.setRow b (cur.toList.take (qK*i.size)++news++cur.toList.drop (qK*i.size+news.length)).toArray):=by
 have hf:=run_firstCells_some (P:=P) w i.size m x m c news hl Pm
 have cK:=run_storeCells_at P b (qK*i.size) T news 0 cur w hg (by simpa using Ao) h1
 simp only[Nat.add_zero]at cK
 simp[Builtin.append_,run_underlying ht,sizeOf,typeInfo,hi,Builtin.lenOf,fU,hf,jW,cK]
theorem Ai (w:World) (FG BG:Nat) (e:TypeId) (h:FG<=ea):FG<=grownCap w FG BG e/\grownCap w FG BG e<=maxLen:=by
 unfold ea at h
 simp only[grownCap,Question.cut,maxLen]
 have:=Nat.mod_lt (w.tape w.drawn (.appendCap FG BG e)) (show 0<2 ^ 63-FG by omega)
 omega
theorem fJ {x y:Operand} {t:TypeId} {u:Value} (ho:o.op=.call {callee:=.builtin .append,args:= #[x,y],argTypes:= #[t,t]}) (h:(Builtin.append_ #[t,t] o.type #[a.eval x,a.eval y]).run P w=.ok u w'):(execOp a.eval o).run P w=.ok (.value u) w':=by
 simp only[execOp,ho,resolve,Sem.run_bind,Sem.run_pure,Result.andThen_ok,invoke,builtin]
 simp only[List.map_toArray,List.map_cons,List.map_nil]
 rw[h];rfl
theorem Bf {T:TypeId} (S:fV P hs D ι g w) (cells:Array Value) (hn:ι id=none) (B:re):Step hs D ι w D (kb ι id B) (w.drew.alloc (.cells cells T)):=
 Step.stay S (fun k hk=>by show(w.heap.push _)[k]? = _;rw[Array.getElem?_push,if_neg (by omega)]) (by show _<=(w.heap.push _).size;simp) rfl rfl rfl (fun _ h=>h) (fun _ h=>.inl h) (eU hn)
theorem GX {x y:Operand} {x' y':O} {t e:TypeId} {m:Nat} {z:List K} {i:TypeInfo} {ys:List (List AV)} {g':Rows} (S:fV P hs D ι g w) (E:bw P w D ι env a) (hn:ι id=none) (ho:o.op=.call {callee:=.builtin .append,args:= #[x,y],argTypes:= #[t,t]})
  (ht:P.underlying t=some (.slice e)) (e5:dG P e=some (m+1)) (hz:jt P e=some z) (hi:P.info? e=some i) (hby:i.bytes<=32768) (hx:cO P x=some x') (hy:cO P y=some y') (D9:bE g (cE env y')=some ys)
  (hv:aY g id (m+1) (cE env x') ys=some (v,g')):BI P hs a o w D ι id v g':=by
 have rx:=cF E hx
 have ry:=cF E hy
 obtain⟨it,zv,p9,uF,Oo,hm,Ea⟩:=jH hz
 rw[hi]at p9;injection p9 with p9;subst p9
 have jm:i.size=m+1:=by simpa[dG,hi]using e5
 have fits:∀n,n<=ea->n*i.bytes<=140737488355328:=fun n h=>by
  unfold ea at h
  have:=Nat.mul_le_mul h hby
  omega
 have e63:∀n,n<=ea->(n:Int)<=9223372036854775807:=fun n h=>by unfold ea at h;omega
 have same:∀(w1:World) (cells:Array Value),w1=w.drew.alloc (.cells cells e)->w1.heap=w.heap.push (.cells cells e (0,0)):=fun w1 cells h=>by subst h;rfl
 have OB:∀l:List (List AV),(l.all fun c=>c.length==m+1&&c.all AV.cell)=true->(∀c∈l,c.length=m+1)/\∀c∈l,∀b∈c,b.cell=true:=fun l h=>by
  rw[List.all_eq_true]at h
  refine⟨fun c hc=>?_,fun c hc b hb=>?_⟩
  ·have:=h c hc;simp at this;exact this.1
  ·have:=h c hc;simp at this;exact this.2 b hb
 unfold aY at hv
 split at hv
 ·rename_i hb
  rw[hb]at rx
  have ex:=jT rx
  split at hv
  ·simp at hv
   obtain⟨rfl,rfl⟩:=hv
   obtain⟨A,c,ey,_⟩:=qH (sz:=m+1) S ry D9 (fun c h=>by cases h) (fun c h=>by cases h)
   refine⟨_,w,ι,.inl (fJ ho (by rw[ex,ey];exact oa ht hi none 0 0 (Nat.le_refl _) A c)),Step.refl _ _ _ _,S,.eD _ _ .cu,fun _ _=>rfl⟩
  ·rename_i y0 yr
   split at hv
   ·rename_i hc
    simp only[Option.some.injEq,Prod.mk.injEq]at hv
    obtain⟨rfl,rfl⟩:=hv
    obtain⟨hl,hf⟩:=OB _ hc.2
    obtain⟨A,c,ey,h2⟩:=qH (sz:=m+1) S ry D9 hl hf
    rcases h2 with h2|⟨b,oo,news,rfl,q1,q2,q3,q4⟩
    ·cases h2
    have fN:=run_append_nil (P:=P) w t o.type e i zv ht hi uF ⟨b,oo,none⟩ (y0::yr).length c news (by rw[jm];exact q1) (fun j v hj=>by rw[jW];exact q2 j v hj) (by simp) (e63 _ hc.1) (by have:=fits _ hc.1;omega)
    obtain⟨g1,g2⟩:=Ai w (y0::yr).length 0 e hc.1
    have cR:(news.toArray++Builtin.zeroCells zv.cells (grownCap w (y0::yr).length 0 e-(y0::yr).length)).size=grownCap w (y0::yr).length 0 e*(m+1):=by
     rw[Array.size_append,size_zeroCells,Oo,jm]
     simp only[List.size_toArray,q1]
     rw[<-Nat.add_mul];congr 1;omega
    have S1:=S.alloc (w':=w.drew.alloc (.cells (news.toArray++Builtin.zeroCells zv.cells (grownCap w (y0::yr).length 0 e-(y0::yr).length)) e)) (r:=⟨true,m+1,y0::yr⟩) rfl hn rfl (by rw[cR];exact Nat.mul_le_mul_right _ g1) hl hf
     (fun k j cs b2 hk hj=>by
      obtain⟨u,hu,wC⟩:=q3.2 _ _ (flat_get hl hk hj)
      refine⟨u,?_,wC⟩
      have dy:=(Array.getElem?_eq_some_iff.1 hu).1
      dsimp only
      rw[Array.getElem?_append_left dy];exact hu)
    have cK:=Bf (T:=e) S (news.toArray++Builtin.zeroCells zv.cells (grownCap w (y0::yr).length 0 e-(y0::yr).length)) hn ⟨w.heap.size,m+1,(news.toArray++Builtin.zeroCells zv.cells (grownCap w (y0::yr).length 0 e-(y0::yr).length)).size,none⟩
    refine⟨_,_,_,.inl (fJ ho (by rw[ex,ey];exact fN)),cK,S1,?_,fun _ h=>fR h⟩
    refine .own _ _ _ _ _ _ (dF _ _ _) rfl g1 (.inr (by simp)) ?_ g2
    dsimp only;rw[cR];simp
   ·simp at hv
 ·rename_i i0 len hb
  rw[hb]at rx
  simp only[Option.bind_eq_some_iff]at hv
  obtain⟨r,hg,hv⟩:=hv
  split at hv
  ·rename_i hc
   obtain⟨c1,c2,c3,c4,c5⟩:=hc
   simp only[Option.some.injEq,Prod.mk.injEq]at hv
   obtain⟨rfl,rfl⟩:=hv
   obtain⟨hl,hf⟩:=OB _ c5
   obtain⟨A,c,ey,h2⟩:=qH (sz:=m+1) S ry D9 hl hf
   obtain⟨oo,cap,B,ex,hB,h1,By,h3,h4,hk⟩:=iF rx
   obtain⟨B',dx,R,jV,oy⟩:=S.row _ _ hg
   rw[hB]at dx;injection dx with dx;subst dx
   replace R:=R.row hk
   have Ha:B.sz=m+1:=R.sz.trans c2
   have yH:∀cs∈r.rows++ys,cs.length=m+1:=fun cs cR=>by
    rcases List.mem_append.1 cR with h|h
    ·rw[<-c2];exact R.len cs h
    ·exact hl cs h
   have K1:∀cs∈r.rows++ys,∀b∈cs,b.cell=true:=fun cs cR=>by
    rcases List.mem_append.1 cR with h|h
    ·exact R.flat cs h
    ·exact hf cs h
   rcases h2 with rfl|⟨yb,yo,news,rfl,q1,q2,q3,q4⟩
   ·have Fc:=S.rename hg c1 hB hn
    refine⟨_,w,kb ι id B,.inl (fJ ho (by rw[ex,ey];exact oa ht hi _ _ _ h1 A c)),⟨Below.refl _ _,fun _ _=>rfl,fun _ h=>h,eU hn,fun _ h=>.inl h⟩,?_,?_,fun _ h=>fR h⟩
    ·have:(⟨true,m+1,r.rows++[]⟩:Row)=r:=by cases r;simp_all
     rw[this];exact Fc
    ·simp only[List.length_nil,Nat.add_zero]
     exact .own _ _ _ _ _ B (dF _ _ _) hk h1 By h3 h4
   ·obtain⟨cur,T,hblk,hC,uv⟩:=R.cur
    by_cases fU:len+ys.length<=cap
    ·have QR:ys≠[]->oo=0:=fun h=>by
      rcases By with By|By
      ·have:=List.length_pos_iff.2 h;omega
      ·simpa using By
     by_cases hy0:ys=[]
     ·subst hy0
      have Fc:=S.rename hg c1 hB hn
      refine⟨_,w,kb ι id B,.inl (fJ ho (by rw[ex,ey];exact oa ht hi _ _ _ h1 _ c)),⟨Below.refl _ _,fun _ _=>rfl,fun _ h=>h,eU hn,fun _ h=>.inl h⟩,?_,?_,fun _ h=>fR h⟩
      ·have:(⟨true,m+1,r.rows++[]⟩:Row)=r:=by cases r;simp_all
       rw[this];exact Fc
      ·simp only[List.length_nil,Nat.add_zero]
       exact .own _ _ _ _ _ B (dF _ _ _) hk h1 By h3 h4
     have ho0:=QR hy0
     subst ho0
     have Ao:len*i.size+news.length<=cur.size:=by
      rw[jm,q1,hC,<-Nat.add_mul]
      refine Nat.le_trans ?_ h3
      rw[Ha,Nat.zero_add]
      exact Nat.mul_le_mul_right _ fU
     have fN:=wJ (ty:=o.type) ht hi B.b len cap cur hblk ⟨yb,yo,none⟩ ys.length c news (by rw[jm];exact q1) (fun j v hj=>by rw[jW];exact q2 j v hj) q4 fU Ao
     have oV:cur.toList.length=cur.size:=Array.length_toList
     simp only[jm]at fN Ao
     obtain⟨P1,P2⟩:=S.put (r':=⟨true,m+1,r.rows++ys⟩) hg c1 hB hblk (cur':=(cur.toList.take (len*(m+1))++news++cur.toList.drop (len*(m+1)+news.length)).toArray) (by simp only[List.size_toArray,List.length_append,List.length_take,List.length_drop,oV];omega) rfl c2.symm
      (by dsimp only;rw[List.length_append,<-c3,<-Ha];refine Nat.le_trans (Nat.mul_le_mul_right _ fU) (Nat.le_trans (by simp) h3)) yH K1 (fun k j cs b2 hk hj=>by
       simp only[List.getElem?_toArray]
       have gm:j<m+1:=by rw[<-yH cs (List.mem_of_getElem? hk)];exact(List.getElem?_eq_some_iff.1 hj).1
       rw[c2]
       by_cases kQ:k<r.rows.length
       ·rw[List.getElem?_append_left kQ]at hk
        have h2:k*(m+1)+j<len*(m+1):=jC (by omega) gm
        rw[List.append_assoc,List.getElem?_append_left (by simp only[List.length_take,oV];omega),List.getElem?_take,if_pos h2]
        have:=uv k j cs b2 hk hj
        rw[c2]at this;simpa using this
       ·rw[List.getElem?_append_right (by omega)]at hk
        have uA:=(List.getElem?_eq_some_iff.1 hk).1
        have ox:len*(m+1)<=k*(m+1):=Nat.mul_le_mul_right _ (by omega)
        have nP:k*(m+1)+j-len*(m+1)=(k-r.rows.length)*(m+1)+j:=by
         rw[<-c3,Nat.sub_mul];omega
        obtain⟨u,hu,wC⟩:=q3.2 _ _ (flat_get hl hk hj)
        refine⟨u,?_,wC⟩
        have D7:news[(k-r.rows.length)*(m+1)+j]? =some u:=by simpa using hu
        have dy:=(List.getElem?_eq_some_iff.1 D7).1
        rw[List.append_assoc,List.getElem?_append_right (by simp only[List.length_take,oV];omega),List.getElem?_append_left (by simp only[List.length_take,oV];omega)]
        rw[<-D7]
        congr 1
        simp only[List.length_take,oV]
        omega)
     have ev:bB (cr (bB g i0 ⟨true,m+1,r.rows++ys⟩) i0) id ⟨true,m+1,r.rows++ys⟩=bB (cr g i0) id ⟨true,m+1,r.rows++ys⟩:=by
      funext q;simp only[bB,cr]
      by_cases h:q=id<;>by_cases h':q=i0<;>simp[h,h']
     have Fc:=P1.rename (i:=i0) (id:=id) (r:=⟨true,m+1,r.rows++ys⟩) (by simp[bB]) rfl hB hn
     rw[ev]at Fc
     refine⟨_,_,_,.inl (fJ ho (by rw[ex,ey];exact fN)),P2.trans ⟨Below.refl _ _,fun _ _=>rfl,fun _ h=>h,eU hn,fun _ h=>.inl h⟩,Fc,?_,fun _ h=>fR h⟩
     exact .own _ _ _ _ _ B (dF _ _ _) hk fU (.inr (by simp)) h3 h4
    ·
     have holds:∃td:List Value,td.length=len*(m+1)/\(∀j v,td[j]? =some v->w.cell? ⟨B.b,oo+j,none⟩=some v)/\fa P w D ι r.rows.flatten td.toArray:=by
      obtain⟨A2,c2',e2,h2⟩:=qH (sz:=m+1) (u:=.slice (some ⟨B.b,oo,none⟩) len cap) S (.own i0 0 len oo cap B hB hk h1 By h3 h4) (ys:=r.rows) (by simp[bE,hg,c3]) (fun cs h=>by rw[<-c2];exact R.len cs h) R.flat
      rcases h2 with h2|⟨b2,o2,td,rfl,p1,p2,p3,_⟩
      ·refine⟨[],by simp[c3,h2],fun j v h=>by simp at h,by rw[h2];exact⟨rfl,fun j a h=>by simp at h⟩⟩
      ·injection e2 with e2 _ _
       injection e2 with e2
       injection e2 with e21 e22 _
       subst e21;subst e22
       exact⟨td,by rw[p1,c3],p2,p3⟩
     obtain⟨td,p1,p2,p3⟩:=holds
     have fN:=run_append_grow (P:=P) w t o.type e i zv ht hi uF ⟨B.b,oo,none⟩ len cap td (by rw[jm];exact p1) (fun j v hj=>by rw[jW];exact p2 j v hj) ⟨yb,yo,none⟩ ys.length c news (by rw[jm];exact q1) (fun j v hj=>by rw[jW];exact q2 j v hj) (by omega) (e63 _ c4) (growslice_fits (by omega) (fits _ c4))
     obtain⟨g1,g2⟩:=Ai w (len+ys.length) cap e c4
     have cR:(td.toArray++news.toArray++Builtin.zeroCells zv.cells (grownCap w (len+ys.length) cap e-(len+ys.length))).size=grownCap w (len+ys.length) cap e*(m+1):=by
      rw[Array.size_append,Array.size_append,size_zeroCells,Oo,jm]
      simp only[List.size_toArray,q1,p1]
      rw[<-Nat.add_mul,<-Nat.add_mul];congr 1;omega
     have S1:=(S.kill i0).alloc (id:=id) (w':=w.drew.alloc (.cells (td.toArray++news.toArray++Builtin.zeroCells zv.cells (grownCap w (len+ys.length) cap e-(len+ys.length))) e)) (r:=⟨true,m+1,r.rows++ys⟩) rfl hn rfl (by dsimp only;rw[cR,List.length_append,<-c3];exact Nat.mul_le_mul_right _ g1) yH K1
      (fun k j cs b2 hk hj=>by
       have JK:=flat_get yH hk hj
       rw[List.flatten_append]at JK
       have hol:td.length=r.rows.flatten.length:=by have:=p3.1;simpa using this
       dsimp only
       by_cases dy:k*(m+1)+j<r.rows.flatten.length
       ·rw[List.getElem?_append_left dy]at JK
        obtain⟨u,hu,wC⟩:=p3.2 _ _ JK
        refine⟨u,?_,wC⟩
        rw[Array.getElem?_append_left (by simp;omega),Array.getElem?_append_left (by simp;omega)];exact hu
       ·rw[List.getElem?_append_right (by omega)]at JK
        obtain⟨u,hu,wC⟩:=q3.2 _ _ JK
        refine⟨u,?_,wC⟩
        have Ar:=(Array.getElem?_eq_some_iff.1 hu).1
        simp only[List.size_toArray]at Ar
        rw[Array.getElem?_append_left (by simp;omega),Array.getElem?_append_right (by simp;omega)]
        simp only[List.size_toArray,hol];exact hu)
     have cK:=Bf (T:=e) S (td.toArray++news.toArray++Builtin.zeroCells zv.cells (grownCap w (len+ys.length) cap e-(len+ys.length))) hn ⟨w.heap.size,m+1,(td.toArray++news.toArray++Builtin.zeroCells zv.cells (grownCap w (len+ys.length) cap e-(len+ys.length))).size,none⟩
     refine⟨_,_,_,.inl (fJ ho (by rw[ex,ey];exact fN)),cK,S1,?_,fun _ h=>fR h⟩
     refine .own _ _ _ _ _ _ (dF _ _ _) rfl g1 (.inr (by simp)) ?_ g2
     dsimp only;rw[cR];simp
  ·simp at hv
 ·simp at hv
theorem kH {x:Operand} {t:TypeId} {u:Value} (ho:o.op=.call {callee:=.builtin .clear,args:= #[x],argTypes:= #[t]}) (h:(Builtin.clear_ #[t] o.type #[a.eval x]).run P w=.ok u w'):(execOp a.eval o).run P w=.ok (.value u) w':=by
 simp only[execOp,ho,resolve,Sem.run_bind,Sem.run_pure,Result.andThen_ok,invoke,builtin]
 simp only[List.map_toArray,List.map_cons,List.map_nil]
 rw[h];rfl
theorem Jz {x:Operand} {x':O} {t e:TypeId} {m:Nat} {z:List K} {g':Rows} (S:fV P hs D ι g w) (E:bw P w D ι env a) (ho:o.op=.call {callee:=.builtin .clear,args:= #[x],argTypes:= #[t]})
  (ht:P.underlying t=some (.slice e)) (e5:dG P e=some (m+1)) (hz:jt P e=some z) (hx:cO P x=some x') (hv:bP g z (cE env x')=some g'):BI P hs a o w D ι id .undef g':=by
 have rx:=cF E hx
 obtain⟨it,zv,hi,uF,Oo,hm,Ea⟩:=jH hz
 have jm:it.size=m+1:=by simpa[dG,hi]using e5
 unfold bP at hv
 split at hv
 ·rename_i hb
  rw[hb]at rx
  simp at hv;subst hv
  refine⟨undef,w,ι,.inl (kH ho (by rw[jT rx];simp only[Builtin.clear_,Sem.run_bind];simp[run_underlying ht,undef])),Step.refl _ _ _ _,S,cq.undef,fun _ _=>rfl⟩
 ·rename_i i off len hb
  rw[hb]at rx
  simp only[Option.bind_eq_some_iff]at hv
  obtain⟨r,hg,hv⟩:=hv
  split at hv
  ·rename_i hc
   obtain⟨c1,c2,c3⟩:=hc
   simp only[Option.some.injEq]at hv;subst hv
   obtain⟨oo,cap,B,ex,hB,h1,h2,h3,h4,hk⟩:=iF rx
   obtain⟨B',dx,R,jV,oy⟩:=S.row _ _ hg
   rw[hB]at dx;injection dx with dx;subst dx
   replace R:=R.row hk
   obtain⟨cur,T,hblk,hC,uv⟩:=R.cur
   by_cases h0:len=0
   ·subst h0
    have e1:({r with rows:=r.rows.take off++List.replicate 0 (z.map K.av)++r.rows.drop (off+0)}:Row)=r:=by cases r;simp
    rw[e1]
    have e2:bB g i r=g:=by
     funext q;unfold bB;split
     ·rename_i h;rw[h,hg]
     ·rfl
    rw[e2]
    refine⟨undef,w,ι,.inl (kH ho (by rw[ex];simp only[Builtin.clear_,Sem.run_bind];simp[run_underlying ht,undef])),Step.refl _ _ _ _,S,cq.undef,fun _ _=>rfl⟩
   ·have BC:oo=off*B.sz:=by rcases h2 with h2|h2<;>omega
    have Ha:B.sz=m+1:=by rw[R.sz,c2,Ea,jm]
    have xk:r.sz=m+1:=by rw[<-R.sz,Ha]
    have PD:zv.cells.size=m+1:=by rw[Oo,jm]
    have xn:(Builtin.zeroCells zv.cells len).toList.length=len*(m+1):=by rw[Array.length_toList,size_zeroCells,PD]
    have PA:∀k,k<len*(m+1)->∃c,z[k % z.length]? =some c/\(Builtin.zeroCells zv.cells len).toList[k]? =some c.val:=fun k hk=>by
     obtain⟨c,pc,yp⟩:=oq (n:=len*zv.cells.size) hm (by rw[Ea,jm];omega) k (by rw[PD];exact hk)
     exact⟨c,pc,by rw[Array.getElem?_toList];exact yp⟩
    have hbound:(off+len)*(m+1)<=r.rows.length*(m+1):=Nat.mul_le_mul_right _ c3
    have Ap:=R.fits
    rw[xk]at Ap
    have RY:(off+len)*(m+1)=off*(m+1)+len*(m+1):=Nat.add_mul _ _ _
    have cK:=run_storeCells_at P B.b oo T (Builtin.zeroCells zv.cells len).toList 0 cur w hblk (by rw[xn,hC,BC,Ha];omega) (by
     intro v hv
     obtain⟨k,hk,rfl⟩:=List.getElem_of_mem hv
     obtain⟨c,_,yp⟩:=PA k (by rw[<-xn];exact hk)
     rw[List.getElem?_eq_getElem hk]at yp
     injection yp with yp
     rw[yp];cases c<;>rfl)
    simp only[Nat.add_zero]at cK
    have oV:cur.toList.length=cur.size:=Array.length_toList
    obtain⟨P1,P2⟩:=S.put (r':={r with rows:=r.rows.take off++List.replicate len (z.map K.av)++r.rows.drop (off+len)}) hg c1 hB hblk (cur':=(cur.toList.take oo++(Builtin.zeroCells zv.cells len).toList++cur.toList.drop (oo+(Builtin.zeroCells zv.cells len).toList.length)).toArray)
     (by simp only[List.size_toArray,List.length_append,List.length_take,List.length_drop,oV,xn];rw[BC,Ha];omega) c1 rfl (by
      have:(r.rows.take off++List.replicate len (z.map K.av)++r.rows.drop (off+len)).length=r.rows.length:=by simp;omega
      dsimp only;rw[this];exact R.fits) (fun cs cR=>by
      rcases List.mem_append.1 cR with h|h
      ·rcases List.mem_append.1 h with h|h
       ·exact R.len cs (List.mem_of_mem_take h)
       ·rw[List.eq_of_mem_replicate h];simp[c2]
      ·exact R.len cs (List.mem_of_mem_drop h)) (fun cs cR b hb=>by
      rcases List.mem_append.1 cR with h|h
      ·rcases List.mem_append.1 h with h|h
       ·exact R.flat cs (List.mem_of_mem_take h) b hb
       ·rw[List.eq_of_mem_replicate h]at hb
        obtain⟨c,_,rfl⟩:=List.mem_map.1 hb;exact c.mb
      ·exact R.flat cs (List.mem_of_mem_drop h) b hb) (fun k j cs b hk hj=>by
      simp only[List.getElem?_toArray]
      rw[xk]
      rw[BC,Ha,xn]
      by_cases vZ:k<off
      ·rw[List.append_assoc,List.getElem?_append_left (by simp;omega),List.getElem?_take,if_pos vZ]at hk
       have gm:j<m+1:=by rw[<-xk,<-R.len cs (List.mem_of_getElem? hk)];exact(List.getElem?_eq_some_iff.1 hj).1
       have h2:=jC vZ gm
       rw[List.append_assoc,List.getElem?_append_left (by simp only[List.length_take,oV];omega),List.getElem?_take,if_pos h2]
       have:=uv k j cs b hk hj
       rw[xk]at this;simpa using this
      ·by_cases uA:k<off+len
       ·rw[List.append_assoc,List.getElem?_append_right (by simp;omega),List.getElem?_append_left (by simp;omega)]at hk
        have gj:=List.eq_of_mem_replicate (List.mem_of_getElem? hk)
        subst gj
        simp only[List.getElem?_map,Option.map_eq_some_iff]at hj
        obtain⟨q,hq,rfl⟩:=hj
        have gm:=(List.getElem?_eq_some_iff.1 hq).1
        rw[Ea,jm]at gm
        have ox:off*(m+1)<=k*(m+1):=Nat.mul_le_mul_right _ (by omega)
        have nP:k*(m+1)+j-off*(m+1)=(k-off)*(m+1)+j:=by rw[Nat.sub_mul];omega
        have Ar:(k-off)*(m+1)+j<len*(m+1):=jC (by omega) gm
        rw[List.append_assoc,List.getElem?_append_right (by simp only[List.length_take,oV];omega),List.getElem?_append_left (by simp only[List.length_take,oV,xn];omega)]
        obtain⟨c,pc,yp⟩:=PA _ Ar
        rw[Ea,jm,Nat.mul_comm (k-off),Nat.mul_add_mod,Nat.mod_eq_of_lt gm,hq]at pc
        injection pc with pc;subst pc
        refine⟨q.val,?_,vm q⟩
        rw[<-yp]
        congr 1
        simp only[List.length_take,oV];omega
       ·rw[List.getElem?_append_right (by simp;omega)]at hk
        simp only[List.length_append,List.length_take,List.length_replicate,List.getElem?_drop]at hk
        rw[show off+len+(k-(min off r.rows.length+len))=k by omega]at hk
        have kQ:=(List.getElem?_eq_some_iff.1 hk).1
        have ox:(off+len)*(m+1)<=k*(m+1):=Nat.mul_le_mul_right _ (by omega)
        rw[List.getElem?_append_right (by simp only[List.length_append,List.length_take,oV,xn];omega)]
        simp only[List.length_append,List.length_take,oV,xn,List.getElem?_drop]
        rw[show off*(m+1)+len*(m+1)+(k*(m+1)+j-(min (off*(m+1)) cur.size+len*(m+1)))=k*(m+1)+j by omega]
        have:=uv k j cs b hk hj
        rw[xk]at this;simpa using this)
    refine⟨undef,_,ι,.inl (kH ho ?_),P2,P1,cq.undef,fun _ _=>rfl⟩
    rw[ex]
    cases len with
    |zero=>exact(h0 rfl).elim
    |succ len=>
     simp only[Builtin.clear_,Sem.run_bind]
     simp[run_underlying ht,zeroValue,typeInfo,hi,uF,cK,undef]
  ·simp at hv
 ·simp at hv
theorem FU {dT sT ty e:TypeId} {it:TypeInfo} (hu:P.underlying dT=some (.slice e)) (hi:P.info? e=some it) (A B:Option Addr) (qK C6 ER LZ:Nat) (h0:Nat.min qK ER=0):
  (Builtin.copy_ #[dT,sT] ty #[.slice A ER LZ,.slice B qK C6]).run P w=.ok (goInt 0) w:=by
 cases A<;>cases B<;>simp[Builtin.copy_,run_underlying hu,Builtin.lenOf,Builtin.firstCells,sizeOf,typeInfo,hi,h0,storeCells,loadCells,loadCellsFrom]
theorem FV {dT sT ty e:TypeId} {it:TypeInfo} (hu:P.underlying dT=some (.slice e)) (hi:P.info? e=some it) (A B:Addr) (qK C6 ER LZ:Nat) (cs:List Value) (hn:cs.length=Nat.min qK ER*it.size) (hl:(loadCells B cs.length).run P w=.ok cs.toArray w) (hs:(storeCells A cs).run P w=.ok () w'):
  (Builtin.copy_ #[dT,sT] ty #[.slice (some A) ER LZ,.slice (some B) qK C6]).run P w=.ok (goInt (Nat.min qK ER)) w':=by
 simp[Builtin.copy_,run_underlying hu,Builtin.lenOf,Builtin.firstCells,sizeOf,typeInfo,hi,<-hn,hl,hs]
theorem pg {x y:Operand} {t t2:TypeId} {u:Value} (ho:o.op=.call {callee:=.builtin .copy,args:= #[x,y],argTypes:= #[t,t2]}) (h:(Builtin.copy_ #[t,t2] o.type #[a.eval x,a.eval y]).run P w=.ok u w'):(execOp a.eval o).run P w=.ok (.value u) w':=by
 simp only[execOp,ho,resolve,Sem.run_bind,Sem.run_pure,Result.andThen_ok,invoke,builtin]
 simp only[List.map_toArray,List.map_cons,List.map_nil]
 rw[h];rfl
theorem L0 {x y:Operand} {x' y':O} {t t2 e:TypeId} {m:Nat} {ys:List (List AV)} {v:AV} {g':Rows} (S:fV P hs D ι g w) (E:bw P w D ι env a) (ho:o.op=.call {callee:=.builtin .copy,args:= #[x,y],argTypes:= #[t,t2]})
  (ht:P.underlying t=some (.slice e)) (e5:dG P e=some (m+1)) (hx:cO P x=some x') (hy:cO P y=some y') (D9:bE g (cE env y')=some ys) (hv:Es g (m+1) (cE env x') ys=some (v,g')):BI P hs a o w D ι id v g':=by
 have rx:=cF E hx
 have ry:=cF E hy
 obtain⟨it,hi,jm⟩:∃it,P.info? e=some it/\it.size=m+1:=by
  cases hq:P.info? e with
  |none=>simp[dG,hq]at e5
  |some it=>exact⟨it,rfl,by simpa[dG,hq]using e5⟩
 unfold Es at hv
 split at hv
 ·rename_i i off len hb
  rw[hb]at rx
  simp only[Option.bind_eq_some_iff]at hv
  obtain⟨r,hg,hv⟩:=hv
  split at hv
  ·rename_i hc
   obtain⟨c1,c2,c3,c4⟩:=hc
   simp only[Option.some.injEq,Prod.mk.injEq]at hv
   obtain⟨rfl,rfl⟩:=hv
   rw[List.all_eq_true]at c4
   have hl:∀c∈ys,c.length=m+1:=fun c hc=>by have:=c4 c hc;simp at this;exact this.1
   have hf:∀c∈ys,∀b∈c,b.cell=true:=fun c hc b hb=>by have:=c4 c hc;simp at this;exact this.2 b hb
   obtain⟨oo,cap,B,ex,hB,h1,h2,h3,h4,hk⟩:=iF rx
   obtain⟨B',dx,R,jV,oy⟩:=S.row _ _ hg
   rw[hB]at dx;injection dx with dx;subst dx
   replace R:=R.row hk
   obtain⟨cur,T,hblk,hC,uv⟩:=R.cur
   obtain⟨A,sc,hu,hA⟩:=qH S ry D9 hl hf
   by_cases h0:min ys.length len=0
   ·rw[h0]
    have e1:({r with rows:=r.rows.take off++ys.take 0++r.rows.drop (off+0)}:Row)=r:=by cases r;simp
    rw[e1]
    have e2:bB g i r=g:=by
     funext q;unfold bB;split
     ·rename_i h;rw[h,hg]
     ·rfl
    rw[e2]
    refine⟨goInt 0,w,ι,.inl (pg ho (by rw[ex,hu];exact FU ht hi _ _ _ _ _ _ h0)),Step.refl _ _ _ _,S,.eD _ _ (.int _ _),fun _ _=>rfl⟩
   ·rcases hA with rfl|⟨b,o2,news,rfl,Gk,hsrc,hR,h1c⟩
    ·simp at h0
    have Ph:Nat.min ys.length len=min ys.length len:=rfl
    have hky:min ys.length len<=ys.length:=Nat.min_le_left _ _
    have kQ:min ys.length len<=len:=Nat.min_le_right _ _
    generalize hkk:min ys.length len=kk at *
    have hlen0:len≠0:=by omega
    have BC:oo=off*B.sz:=by rcases h2 with h2|h2<;>omega
    have Ha:B.sz=m+1:=by rw[R.sz,c2]
    have xk:r.sz=m+1:=c2
    have QI:kk*(m+1)<=ys.length*(m+1):=Nat.mul_le_mul_right _ hky
    have xn:(news.take (kk*(m+1))).length=kk*(m+1):=by rw[List.length_take,Gk];omega
    have hbound:(off+kk)*(m+1)<=r.rows.length*(m+1):=Nat.mul_le_mul_right _ (by omega)
    have Ap:=R.fits
    rw[xk]at Ap
    have RY:(off+kk)*(m+1)=off*(m+1)+kk*(m+1):=Nat.add_mul _ _ _
    have cK:=run_storeCells_at P B.b oo T (news.take (kk*(m+1))) 0 cur w hblk (by rw[xn,hC,BC,Ha];omega) (fun v hv=>h1c v (List.mem_of_mem_take hv))
    have QL:=run_loadCells_list (P:=P) w ⟨b,o2,none⟩ (news.take (kk*(m+1))) (fun j v hj=>by
     rw[List.getElem?_take]at hj
     split at hj
     ·have:=hsrc j v hj
      cases j with
      |zero=>simpa[Addr.add]using this
      |succ j=>simpa[Addr.add]using this
     ·cases hj)
    simp only[Nat.add_zero]at cK
    have oV:cur.toList.length=cur.size:=Array.length_toList
    have Jg:(ys.take kk).length=kk:=by rw[List.length_take];omega
    obtain⟨P1,P2⟩:=S.put (r':={r with rows:=r.rows.take off++ys.take kk++r.rows.drop (off+kk)}) hg c1 hB hblk (cur':=(cur.toList.take oo++news.take (kk*(m+1))++cur.toList.drop (oo+(news.take (kk*(m+1))).length)).toArray)
     (by simp only[List.size_toArray,List.length_append,List.length_drop,oV,xn];rw[List.length_take,oV,BC,Ha];omega) c1 rfl (by
      have:(r.rows.take off++ys.take kk++r.rows.drop (off+kk)).length=r.rows.length:=by simp;omega
      dsimp only;rw[this];exact R.fits) (fun cs cR=>by
      rcases List.mem_append.1 cR with h|h
      ·rcases List.mem_append.1 h with h|h
       ·exact R.len cs (List.mem_of_mem_take h)
       ·rw[hl cs (List.mem_of_mem_take h)];exact c2.symm
      ·exact R.len cs (List.mem_of_mem_drop h)) (fun cs cR b hb=>by
      rcases List.mem_append.1 cR with h|h
      ·rcases List.mem_append.1 h with h|h
       ·exact R.flat cs (List.mem_of_mem_take h) b hb
       ·exact hf cs (List.mem_of_mem_take h) b hb
      ·exact R.flat cs (List.mem_of_mem_drop h) b hb) (fun k j cs b hk hj=>by
      simp only[List.getElem?_toArray]
      rw[xk]
      rw[BC,Ha,xn]
      by_cases vZ:k<off
      ·rw[List.append_assoc,List.getElem?_append_left (by simp;omega),List.getElem?_take,if_pos vZ]at hk
       have gm:j<m+1:=by rw[<-xk,<-R.len cs (List.mem_of_getElem? hk)];exact(List.getElem?_eq_some_iff.1 hj).1
       have h2:=jC vZ gm
       rw[List.append_assoc,List.getElem?_append_left (by simp only[List.length_take,oV];omega),List.getElem?_take,if_pos h2]
       have:=uv k j cs b hk hj
       rw[xk]at this;simpa using this
      ·by_cases uA:k<off+kk
       ·rw[List.append_assoc,List.getElem?_append_right (by simp;omega),List.getElem?_append_left (by simp;omega)]at hk
        simp only[List.length_take]at hk
        rw[show k-min off r.rows.length=k-off by omega,List.getElem?_take,if_pos (by omega)]at hk
        have gm:j<m+1:=by rw[<-hl cs (List.mem_of_getElem? hk)];exact(List.getElem?_eq_some_iff.1 hj).1
        have ox:off*(m+1)<=k*(m+1):=Nat.mul_le_mul_right _ (by omega)
        have nP:k*(m+1)+j-off*(m+1)=(k-off)*(m+1)+j:=by rw[Nat.sub_mul];omega
        have Ar:(k-off)*(m+1)+j<kk*(m+1):=jC (by omega) gm
        rw[List.append_assoc,List.getElem?_append_right (by simp only[List.length_take,oV];omega),List.getElem?_append_left (by rw[xn];simp only[List.length_take,oV];omega)]
        obtain⟨u,Pw,hu2⟩:=hR.2 ((k-off)*(m+1)+j) b (flat_get hl hk hj)
        refine⟨u,?_,hu2⟩
        rw[List.getElem?_take]
        simp only[List.length_take,oV]
        rw[show k*(m+1)+j-min (off*(m+1)) cur.size=(k-off)*(m+1)+j by omega,if_pos Ar]
        simpa using Pw
       ·rw[List.getElem?_append_right (by simp;omega)]at hk
        simp only[List.length_append,List.length_take,List.getElem?_drop]at hk
        rw[show off+kk+(k-(min off r.rows.length+min kk ys.length))=k by omega]at hk
        have kQ:=(List.getElem?_eq_some_iff.1 hk).1
        have ox:(off+kk)*(m+1)<=k*(m+1):=Nat.mul_le_mul_right _ (by omega)
        rw[List.getElem?_append_right (by rw[List.length_append,xn];simp only[List.length_take,oV];omega)]
        rw[List.getElem?_drop,List.length_append,xn]
        simp only[List.length_take,oV]
        rw[show off*(m+1)+kk*(m+1)+(k*(m+1)+j-(min (off*(m+1)) cur.size+kk*(m+1)))=k*(m+1)+j by omega]
        have:=uv k j cs b hk hj
        rw[xk]at this;simpa using this)
    refine⟨goInt kk,_,ι,.inl (pg ho ?_),P2,P1,.eD _ _ (.int _ _),fun _ _=>rfl⟩
    rw[ex,hu]
    have:=FV (w:=w) (sT:=t2) (ty:=o.type) ht hi ⟨B.b,oo,none⟩ ⟨b,o2,none⟩ ys.length sc len cap _ (by rw[xn,Ph,jm]) QL cK
    rw[Ph]at this
    exact this
  ·simp at hv
 ·simp at hv
end
end Go.Proofs.YtgoelphibofcmaaGreat.V

namespace Go.Proofs.YtgoelphibofcmaaGreat.V
open Go.RowKit
variable {P:Program} {w w':World} {D D' D2:Nat->Prop} {ι ι' ι2:Names}
section
variable {g:Rows} {hs:Nat}
theorem gG:∀{n:Nat} {l r:List AV},cH g n l=some r->r.length=l.length/\∀(j:Nat) (b:AV),r[j]? =some b->∃a,l[j]? =some a/\fz g n a=some b
 |n,[],r,h=>by
  rw[cH]at h;simp at h;subst h;simp
 |n,a::l,r,h=>by
  rw[cH]at h
  split at h
  ·rename_i b hb
   simp only[Option.map_eq_some_iff]at h
   obtain⟨r',hr,rfl⟩:=h
   obtain⟨h1,h2⟩:=gG hr
   refine⟨by simp[h1],fun j c hj=>?_⟩
   cases j with
   |zero=>simp at hj;subst hj;exact⟨a,rfl,hb⟩
   |succ j=>simp at hj ⊢;exact h2 j c hj
  ·simp at h
theorem uo:∀{n:Nat} {l r:List (List AV)},dJ g n l=some r->r.length=l.length/\∀(j:Nat) (b:List AV),r[j]? =some b->∃a,l[j]? =some a/\cH g n a=some b
 |n,[],r,h=>by
  rw[dJ]at h;simp at h;subst h;simp
 |n,a::l,r,h=>by
  rw[dJ]at h
  split at h
  ·rename_i b hb
   simp only[Option.map_eq_some_iff]at h
   obtain⟨r',hr,rfl⟩:=h
   obtain⟨h1,h2⟩:=uo hr
   refine⟨by simp[h1],fun j c hj=>?_⟩
   cases j with
   |zero=>simp at hj;subst hj;exact⟨a,rfl,hb⟩
   |succ j=>simp at hj ⊢;exact h2 j c hj
  ·simp at h
theorem uq (hD:∀b,D b->D2 b) (wY:∀id row,g id=some row->row.w=true->∃B,ι id=some B/\gV P w D ι B row/\D2 B.b):∀(n:Nat) (a:AV) (u:Value) (r:AV),cq P w D ι a u->fz g n a=some r->cq P w D2 ι2 r u/\(a.cell=true->jr P w D2 r u/\r.cell=true):=by
 intro n
 induction n with
 |zero=>intro a u r _ h;rw[fz]at h;simp at h
 |succ n ih=>
  intro a u r hr h
  have both:∀{r:AV},jr P w D2 r u->r.cell=true->cq P w D2 ι2 r u/\(a.cell=true->jr P w D2 r u/\r.cell=true):=fun h1 h2=>⟨.eD _ _ h1,fun _=>⟨h1,h2⟩⟩
  cases a with
  |map id m=>rw[fz]at h;cases h
  |si id=>rw[fz]at h;cases h
  |own id off len=>
   rw[fz]at h
   split at h
   ·rename_i row hg
    split at h
    ·rename_i hw
     split at h
     ·rename_i hle
      simp only[Option.map_eq_some_iff]at h
      obtain⟨rows,nO,rfl⟩:=h
      obtain⟨B,hB,R,Mg⟩:=wY id row hg hw
      obtain⟨o,cap,B',rfl,dx,h1,h2,h3,h4,hk⟩:=iF hr
      rw[hB]at dx;injection dx with dx;subst dx
      replace R:=R.row hk
      obtain⟨l1,l2⟩:=uo nO
      have hlen:rows.length=len:=by rw[l1];simp;omega
      by_cases h0:rows=[]
      ·subst h0
       simp at hlen;subst hlen
       exact both (.C9 _ _ h4) rfl
      ·have hlp:0<len:=by rw[<-hlen];exact List.length_pos_iff.2 h0
       have ho:o=off*B.sz:=by rcases h2 with h2|h2<;>omega
       have src:∀i cs,rows[i]? =some cs->∃c0,row.rows[off+i]? =some c0/\cH g n c0=some cs:=fun i cs hi=>by
        obtain⟨c0,ju,hf⟩:=l2 i cs hi
        rw[List.getElem?_take]at ju
        split at ju
        ·rw[List.getElem?_drop]at ju;exact⟨c0,ju,hf⟩
        ·simp at ju
       have cell:∀i j,i<len->j<row.sz->∃c0 a0 v,row.rows[off+i]? =some c0/\c0[j]? =some a0/\w.cell? ⟨B.b,o+(i*row.sz+j),none⟩=some v/\cq P w D ι a0 v:=fun i j hi hj=>by
        have p9:off+i<row.rows.length:=by omega
        have e1:=List.getElem?_eq_getElem p9
        have I8:j<row.rows[off+i].length:=by rw[R.len _ (List.getElem_mem p9)];exact hj
        obtain⟨v,hv,lg⟩:=R.at_ _ _ _ _ e1 (List.getElem?_eq_getElem I8)
        refine⟨_,_,v,e1,List.getElem?_eq_getElem I8,?_,lg⟩
        rw[ho,R.sz,<-hv]
        congr 2
        rw[Nat.add_mul];omega
       refine both (.sl rows B.b o len cap row.sz (fun i j=>(w.cell? ⟨B.b,o+(i*row.sz+j),none⟩).getD undef) hlen h1 h4 Mg (fun cs cR=>?_) (fun cs cR b hb=>?_) (fun i j hi hj=>?_) (fun i j cs b hi hj=>?_)) rfl
       ·obtain⟨i,hi,rfl⟩:=List.getElem_of_mem cR
        obtain⟨c0,ju,hf⟩:=src i _ (List.getElem?_eq_getElem hi)
        rw[(gG hf).1];exact R.len c0 (List.mem_of_getElem? ju)
       ·obtain⟨i,hi,rfl⟩:=List.getElem_of_mem cR
        obtain⟨c0,ju,hf⟩:=src i _ (List.getElem?_eq_getElem hi)
        obtain⟨j,hj,rfl⟩:=List.getElem_of_mem hb
        obtain⟨a0,lf,Hj⟩:=(gG hf).2 j _ (List.getElem?_eq_getElem hj)
        obtain⟨v,_,lg⟩:=R.at_ _ _ _ _ ju lf
        exact((ih _ _ _ lg Hj).2 (R.flat c0 (List.mem_of_getElem? ju) a0 (List.mem_of_getElem? lf))).2
       ·obtain⟨c0,a0,v,_,_,hv,_⟩:=cell i j hi hj
        simp only[hv,Option.getD_some]
       ·obtain⟨c0,ju,hf⟩:=src i cs hi
        obtain⟨a0,lf,Hj⟩:=(gG hf).2 j b hj
        have lv:i<len:=by rw[<-hlen];exact(List.getElem?_eq_some_iff.1 hi).1
        have gm:j<row.sz:=by rw[<-R.len c0 (List.mem_of_getElem? ju)];exact(List.getElem?_eq_some_iff.1 lf).1
        obtain⟨c1,a1,v,e1,e2,hv,lg⟩:=cell i j lv gm
        rw[ju]at e1;injection e1 with e1;subst e1
        rw[lf]at e2;injection e2 with e2;subst e2
        simp only[hv,Option.getD_some]
        exact((ih _ _ _ lg Hj).2 (R.flat c0 (List.mem_of_getElem? ju) a0 (List.mem_of_getElem? lf))).1
     ·simp at h
    ·simp at h
   ·simp at h
  |ptr id i off=>
   rw[fz]at h
   split at h
   ·rename_i row hg
    split at h
    ·rename_i hw
     split at h
     ·rename_i c0 ju
      simp only[Option.map_eq_some_iff]at h
      obtain⟨cs,cR,rfl⟩:=h
      obtain⟨B,hB,R,Mg⟩:=wY id row hg hw
      obtain⟨B',rfl,dx,hk⟩:=iq hr
      rw[hB]at dx;injection dx with dx;subst dx
      replace R:=R.row hk
      obtain⟨l1,l2⟩:=gG cR
      have at_:∀j b,cs[j]? =some b->∃a0 v,w.cell? ⟨B.b,i*B.sz+off+j,none⟩=some v/\cq P w D ι a0 v/\a0.cell=true/\fz g n a0=some b:=fun j b hj=>by
       obtain⟨a0,lf,hf⟩:=l2 j b hj
       rw[List.getElem?_drop]at lf
       obtain⟨v,hv,lg⟩:=R.at_ _ _ _ _ ju lf
       refine⟨a0,v,?_,lg,R.flat c0 (List.mem_of_getElem? ju) a0 (List.mem_of_getElem? lf),hf⟩
       rw[R.sz,Nat.add_assoc];exact hv
      refine both (.bK cs B.b _ (fun j=>(w.cell? ⟨B.b,i*B.sz+off+j,none⟩).getD undef) Mg (fun b hb=>?_) (fun j hj=>?_) (fun j b hj=>?_)) rfl
      ·obtain⟨j,hj,rfl⟩:=List.getElem_of_mem hb
       obtain⟨a0,v,_,lg,hc,hf⟩:=at_ j _ (List.getElem?_eq_getElem hj)
       exact((ih _ _ _ lg hf).2 hc).2
      ·obtain⟨a0,v,hv,_⟩:=at_ j _ (List.getElem?_eq_getElem hj)
       simp only[hv,Option.getD_some]
      ·obtain⟨a0,v,hv,lg,hc,hf⟩:=at_ j b hj
       simp only[hv,Option.getD_some]
       exact((ih _ _ _ lg hf).2 hc).1
     ·simp at h
    ·simp at h
   ·simp at h
  |agg cs=>
   rw[fz]at h
   simp only[Option.map_eq_some_iff]at h
   obtain⟨r',wz,rfl⟩:=h
   obtain⟨vs,f,rfl,h1,h2,h3,h4⟩:=jg hr
   obtain⟨l1,l2⟩:=gG wz
   have hI:jr P w D2 (.agg r') (.agg vs):=.agg r' vs f (by rw[h1,l1]) (fun b hb=>by
    obtain⟨j,hj,rfl⟩:=List.getElem_of_mem hb
    obtain⟨a0,lf,hf⟩:=l2 j _ (List.getElem?_eq_getElem hj)
    exact((ih _ _ _ (h4 j a0 lf) hf).2 (h2 a0 (List.mem_of_getElem? lf))).2) (fun j hj=>h3 j (by rw[<-l1];exact hj)) (fun j b hj=>by
    obtain⟨a0,lf,hf⟩:=l2 j b hj
    exact((ih _ _ _ (h4 j a0 lf) hf).2 (h2 a0 (List.mem_of_getElem? lf))).1)
   exact⟨.eD _ _ hI,fun hc=>by simp[AV.cell]at hc⟩
  |gN cs=>
   rw[fz]at h
   simp only[Option.map_eq_some_iff]at h
   obtain⟨r',wz,rfl⟩:=h
   obtain⟨vs,f,rfl,h1,h3,h4⟩:=y7 hr
   obtain⟨l1,l2⟩:=gG wz
   exact⟨.gN r' vs f (by rw[h1,l1]) (fun j hj=>h3 j (by rw[<-l1];exact hj)) (fun j b hj=>by
    obtain⟨a0,lf,hf⟩:=l2 j b hj
    exact(ih _ _ _ (h4 j a0 lf) hf).1),fun hc=>by simp[AV.cell]at hc⟩
  |fn f bZ=>
   rw[fz]at h
   split at h
   ·rename_i dC
    simp only[Option.map_eq_some_iff]at h
    obtain⟨r',wz,rfl⟩:=h
    obtain⟨vs,q,rfl,h0,h1,h3,h4⟩:=y6 hr
    obtain⟨l1,l2⟩:=gG wz
    exact both (.fn f r' vs q h0 (by rw[h1,l1]) (fun j hj=>h3 j (by rw[<-l1];exact hj)) (fun j b hj=>by
     obtain⟨a0,lf,hf⟩:=l2 j b hj
     exact((ih _ _ _ (h4 j a0 lf) hf).2 (List.all_eq_true.1 dC a0 (List.mem_of_getElem? lf))).1)) rfl
   ·simp at h
  |int k m=>rw[fz]at h<;>(try simp at h)<;>(try subst h)<;>(try(rw[cV hr];exact⟨.eD _ _ (.int _ _),fun _=>⟨.int _ _,rfl⟩⟩))<;>(try(intros;simp_all))
  |bool b=>rw[fz]at h<;>(try simp at h)<;>(try subst h)<;>(try(rw[eS hr];exact⟨.eD _ _ (.bool _),fun _=>⟨.bool _,rfl⟩⟩))<;>(try(intros;simp_all))
  |str b=>rw[fz]at h<;>(try simp at h)<;>(try subst h)<;>(try(rw[fm hr];exact⟨.eD _ _ (.str _),fun _=>⟨.str _,rfl⟩⟩))<;>(try(intros;simp_all))
  |cu=>rw[fz]at h<;>(try simp at h)<;>(try subst h)<;>(try(rw[jT hr];exact⟨.eD _ _ .cu,fun _=>⟨.cu,rfl⟩⟩))<;>(try(intros;simp_all))
  |jn=>rw[fz]at h<;>(try simp at h)<;>(try subst h)<;>(try(rw[vn hr];exact⟨.eD _ _ .jn,fun _=>⟨.jn,rfl⟩⟩))<;>(try(intros;simp_all))
  |jD=>rw[fz]at h<;>(try simp at h)<;>(try subst h)<;>(try(rw[A8 hr];exact⟨.eD _ _ .jD,fun _=>⟨.jD,rfl⟩⟩))<;>(try(intros;simp_all))
  |tb f bZ=>rw[fz]at h<;>(try simp at h)<;>(try(intros;simp_all))
  |gx=>rw[fz]at h<;>(try simp at h)<;>(try subst h)<;>(try(cases hr with|eD _ _ hr=>exact both (hr.frame (fun _ _=>rfl) hD) rfl))<;>(try(intros;simp_all))
  |sl rows=>rw[fz]at h<;>(try simp at h)<;>(try subst h)<;>(try(cases hr with|eD _ _ hr=>exact both (hr.frame (fun _ _=>rfl) hD) rfl))<;>(try(intros;simp_all))
  |bK cs=>rw[fz]at h<;>(try simp at h)<;>(try subst h)<;>(try(cases hr with|eD _ _ hr=>exact both (hr.frame (fun _ _=>rfl) hD) rfl))<;>(try(intros;simp_all))
theorem iI:∀{n:Nat} {l r:List AV},dS g n l=some r->r.length=l.length/\∀(j:Nat) (b:AV),r[j]? =some b->∃a,l[j]? =some a/\fX g n a=some b
 |n,[],r,h=>by
  rw[dS]at h;simp at h;subst h;simp
 |n,a::l,r,h=>by
  rw[dS]at h
  split at h
  ·rename_i b hb
   simp only[Option.map_eq_some_iff]at h
   obtain⟨r',hr,rfl⟩:=h
   obtain⟨h1,h2⟩:=iI hr
   refine⟨by simp[h1],fun j c hj=>?_⟩
   cases j with
   |zero=>simp at hj;subst hj;exact⟨a,rfl,hb⟩
   |succ j=>simp at hj ⊢;exact h2 j c hj
  ·simp at h
theorem sw:∀{n:Nat} {l r:List (List AV)},gL g n l=some r->r.length=l.length/\∀(j:Nat) (b:List AV),r[j]? =some b->∃a,l[j]? =some a/\dS g n a=some b
 |n,[],r,h=>by
  rw[gL]at h;simp at h;subst h;simp
 |n,a::l,r,h=>by
  rw[gL]at h
  split at h
  ·rename_i b hb
   simp only[Option.map_eq_some_iff]at h
   obtain⟨r',hr,rfl⟩:=h
   obtain⟨h1,h2⟩:=sw hr
   refine⟨by simp[h1],fun j c hj=>?_⟩
   cases j with
   |zero=>simp at hj;subst hj;exact⟨a,rfl,hb⟩
   |succ j=>simp at hj ⊢;exact h2 j c hj
  ·simp at h
theorem E4 (wY:∀id row,g id=some row->row.w=true->∃B,ι id=some B/\gV P w D ι B row/\D2 B.b):∀(n:Nat) (a:AV) (u:Value) (r:AV),cq P w D ι a u->fX g n a=some r->cq P w D2 ι2 r u/\(a.cell=true->jr P w D2 r u/\r.cell=true):=by
 intro n
 induction n with
 |zero=>intro a u r _ h;rw[fX]at h;simp at h
 |succ n ih=>
  intro a u r hr h
  have both:∀{r:AV},jr P w D2 r u->r.cell=true->cq P w D2 ι2 r u/\(a.cell=true->jr P w D2 r u/\r.cell=true):=fun h1 h2=>⟨.eD _ _ h1,fun _=>⟨h1,h2⟩⟩
  cases a with
  |map id m=>rw[fX]at h<;>simp_all
  |si id=>rw[fX]at h<;>simp_all
  |own id off len=>
   rw[fX]at h
   split at h
   ·rename_i row hg
    split at h
    ·rename_i hw
     split at h
     ·rename_i hle
      simp only[Option.map_eq_some_iff]at h
      obtain⟨rows,nO,rfl⟩:=h
      obtain⟨B,hB,R,Mg⟩:=wY id row hg hw
      obtain⟨o,cap,B',rfl,dx,h1,h2,h3,h4,hk⟩:=iF hr
      rw[hB]at dx;injection dx with dx;subst dx
      replace R:=R.row hk
      obtain⟨l1,l2⟩:=sw nO
      have hlen:rows.length=len:=by rw[l1];simp;omega
      by_cases h0:rows=[]
      ·subst h0
       simp at hlen;subst hlen
       exact both (.C9 _ _ h4) rfl
      ·have hlp:0<len:=by rw[<-hlen];exact List.length_pos_iff.2 h0
       have ho:o=off*B.sz:=by rcases h2 with h2|h2<;>omega
       have src:∀i cs,rows[i]? =some cs->∃c0,row.rows[off+i]? =some c0/\dS g n c0=some cs:=fun i cs hi=>by
        obtain⟨c0,ju,hf⟩:=l2 i cs hi
        rw[List.getElem?_take]at ju
        split at ju
        ·rw[List.getElem?_drop]at ju;exact⟨c0,ju,hf⟩
        ·simp at ju
       have cell:∀i j,i<len->j<row.sz->∃c0 a0 v,row.rows[off+i]? =some c0/\c0[j]? =some a0/\w.cell? ⟨B.b,o+(i*row.sz+j),none⟩=some v/\cq P w D ι a0 v:=fun i j hi hj=>by
        have p9:off+i<row.rows.length:=by omega
        have e1:=List.getElem?_eq_getElem p9
        have I8:j<row.rows[off+i].length:=by rw[R.len _ (List.getElem_mem p9)];exact hj
        obtain⟨v,hv,lg⟩:=R.at_ _ _ _ _ e1 (List.getElem?_eq_getElem I8)
        refine⟨_,_,v,e1,List.getElem?_eq_getElem I8,?_,lg⟩
        rw[ho,R.sz,<-hv]
        congr 2
        rw[Nat.add_mul];omega
       refine both (.sl rows B.b o len cap row.sz (fun i j=>(w.cell? ⟨B.b,o+(i*row.sz+j),none⟩).getD undef) hlen h1 h4 Mg (fun cs cR=>?_) (fun cs cR b hb=>?_) (fun i j hi hj=>?_) (fun i j cs b hi hj=>?_)) rfl
       ·obtain⟨i,hi,rfl⟩:=List.getElem_of_mem cR
        obtain⟨c0,ju,hf⟩:=src i _ (List.getElem?_eq_getElem hi)
        rw[(iI hf).1];exact R.len c0 (List.mem_of_getElem? ju)
       ·obtain⟨i,hi,rfl⟩:=List.getElem_of_mem cR
        obtain⟨c0,ju,hf⟩:=src i _ (List.getElem?_eq_getElem hi)
        obtain⟨j,hj,rfl⟩:=List.getElem_of_mem hb
        obtain⟨a0,lf,Hj⟩:=(iI hf).2 j _ (List.getElem?_eq_getElem hj)
        obtain⟨v,_,lg⟩:=R.at_ _ _ _ _ ju lf
        exact((ih _ _ _ lg Hj).2 (R.flat c0 (List.mem_of_getElem? ju) a0 (List.mem_of_getElem? lf))).2
       ·obtain⟨c0,a0,v,_,_,hv,_⟩:=cell i j hi hj
        simp only[hv,Option.getD_some]
       ·obtain⟨c0,ju,hf⟩:=src i cs hi
        obtain⟨a0,lf,Hj⟩:=(iI hf).2 j b hj
        have lv:i<len:=by rw[<-hlen];exact(List.getElem?_eq_some_iff.1 hi).1
        have gm:j<row.sz:=by rw[<-R.len c0 (List.mem_of_getElem? ju)];exact(List.getElem?_eq_some_iff.1 lf).1
        obtain⟨c1,a1,v,e1,e2,hv,lg⟩:=cell i j lv gm
        rw[ju]at e1;injection e1 with e1;subst e1
        rw[lf]at e2;injection e2 with e2;subst e2
        simp only[hv,Option.getD_some]
        exact((ih _ _ _ lg Hj).2 (R.flat c0 (List.mem_of_getElem? ju) a0 (List.mem_of_getElem? lf))).1
     ·simp at h
    ·simp at h
   ·simp at h
  |ptr id i off=>
   rw[fX]at h
   split at h
   ·rename_i row hg
    split at h
    ·rename_i hw
     split at h
     ·rename_i c0 ju
      simp only[Option.map_eq_some_iff]at h
      obtain⟨cs,cR,rfl⟩:=h
      obtain⟨B,hB,R,Mg⟩:=wY id row hg hw
      obtain⟨B',rfl,dx,hk⟩:=iq hr
      rw[hB]at dx;injection dx with dx;subst dx
      replace R:=R.row hk
      obtain⟨l1,l2⟩:=iI cR
      have at_:∀j b,cs[j]? =some b->∃a0 v,w.cell? ⟨B.b,i*B.sz+off+j,none⟩=some v/\cq P w D ι a0 v/\a0.cell=true/\fX g n a0=some b:=fun j b hj=>by
       obtain⟨a0,lf,hf⟩:=l2 j b hj
       rw[List.getElem?_drop]at lf
       obtain⟨v,hv,lg⟩:=R.at_ _ _ _ _ ju lf
       refine⟨a0,v,?_,lg,R.flat c0 (List.mem_of_getElem? ju) a0 (List.mem_of_getElem? lf),hf⟩
       rw[R.sz,Nat.add_assoc];exact hv
      refine both (.bK cs B.b _ (fun j=>(w.cell? ⟨B.b,i*B.sz+off+j,none⟩).getD undef) Mg (fun b hb=>?_) (fun j hj=>?_) (fun j b hj=>?_)) rfl
      ·obtain⟨j,hj,rfl⟩:=List.getElem_of_mem hb
       obtain⟨a0,v,_,lg,hc,hf⟩:=at_ j _ (List.getElem?_eq_getElem hj)
       exact((ih _ _ _ lg hf).2 hc).2
      ·obtain⟨a0,v,hv,_⟩:=at_ j _ (List.getElem?_eq_getElem hj)
       simp only[hv,Option.getD_some]
      ·obtain⟨a0,v,hv,lg,hc,hf⟩:=at_ j b hj
       simp only[hv,Option.getD_some]
       exact((ih _ _ _ lg hf).2 hc).1
     ·simp at h
    ·simp at h
   ·simp at h
  |agg cs=>
   rw[fX]at h
   simp only[Option.map_eq_some_iff]at h
   obtain⟨r',wz,rfl⟩:=h
   obtain⟨vs,f,rfl,h1,h2,h3,h4⟩:=jg hr
   obtain⟨l1,l2⟩:=iI wz
   have hI:jr P w D2 (.agg r') (.agg vs):=.agg r' vs f (by rw[h1,l1]) (fun b hb=>by
    obtain⟨j,hj,rfl⟩:=List.getElem_of_mem hb
    obtain⟨a0,lf,hf⟩:=l2 j _ (List.getElem?_eq_getElem hj)
    exact((ih _ _ _ (h4 j a0 lf) hf).2 (h2 a0 (List.mem_of_getElem? lf))).2) (fun j hj=>h3 j (by rw[<-l1];exact hj)) (fun j b hj=>by
    obtain⟨a0,lf,hf⟩:=l2 j b hj
    exact((ih _ _ _ (h4 j a0 lf) hf).2 (h2 a0 (List.mem_of_getElem? lf))).1)
   exact⟨.eD _ _ hI,fun hc=>by simp[AV.cell]at hc⟩
  |gN cs=>
   rw[fX]at h
   simp only[Option.map_eq_some_iff]at h
   obtain⟨r',wz,rfl⟩:=h
   obtain⟨vs,f,rfl,h1,h3,h4⟩:=y7 hr
   obtain⟨l1,l2⟩:=iI wz
   exact⟨.gN r' vs f (by rw[h1,l1]) (fun j hj=>h3 j (by rw[<-l1];exact hj)) (fun j b hj=>by
    obtain⟨a0,lf,hf⟩:=l2 j b hj
    exact(ih _ _ _ (h4 j a0 lf) hf).1),fun hc=>by simp[AV.cell]at hc⟩
  |fn f bZ=>rw[fX]at h<;>(try simp at h)<;>(try(intros;simp_all))
  |int k m=>rw[fX]at h<;>(try simp at h)<;>(try subst h)<;>(try(rw[cV hr];exact⟨.eD _ _ (.int _ _),fun _=>⟨.int _ _,rfl⟩⟩))<;>(try(intros;simp_all))
  |bool b=>rw[fX]at h<;>(try simp at h)<;>(try subst h)<;>(try(rw[eS hr];exact⟨.eD _ _ (.bool _),fun _=>⟨.bool _,rfl⟩⟩))<;>(try(intros;simp_all))
  |str b=>rw[fX]at h<;>(try simp at h)<;>(try subst h)<;>(try(rw[fm hr];exact⟨.eD _ _ (.str _),fun _=>⟨.str _,rfl⟩⟩))<;>(try(intros;simp_all))
  |cu=>rw[fX]at h<;>(try simp at h)<;>(try subst h)<;>(try(rw[jT hr];exact⟨.eD _ _ .cu,fun _=>⟨.cu,rfl⟩⟩))<;>(try(intros;simp_all))
  |jn=>rw[fX]at h<;>(try simp at h)<;>(try subst h)<;>(try(rw[vn hr];exact⟨.eD _ _ .jn,fun _=>⟨.jn,rfl⟩⟩))<;>(try(intros;simp_all))
  |jD=>rw[fX]at h<;>(try simp at h)<;>(try subst h)<;>(try(rw[A8 hr];exact⟨.eD _ _ .jD,fun _=>⟨.jD,rfl⟩⟩))<;>(try(intros;simp_all))
  |tb f bZ=>rw[fX]at h<;>(try simp at h)<;>(try(intros;simp_all))
  |gx=>rw[fX]at h<;>(try simp at h)<;>(try subst h)<;>(try(cases hr with|eD _ _ hr=>cases hr;exact both .gx rfl))<;>(try(intros;simp_all))
  |sl rows=>rw[fX]at h<;>(try simp at h)<;>(try(intros;simp_all))
  |bK cs=>rw[fX]at h<;>(try simp at h)<;>(try(intros;simp_all))
end
end Go.Proofs.YtgoelphibofcmaaGreat.V

namespace Go.Proofs.YtgoelphibofcmaaGreat.V
open Go.RowKit
variable {P:Program} {w w':World} {D D':Nat->Prop} {ι ι':Names}
section
variable {g:Rows} {hs:Nat} {env:Env} {a:Act} {o:Oper} {id:Id} {v:AV}
theorem fV.Ga (S:fV P hs D ι g w) {i:Id} {r r':Row} {B:re} {ob:Obj} (hid:g i=some r) (hw:r.w=true) (hB:ι i=some B)
  (hR:(∀a v,cq P w D ι a v->cq P {w with heap:=w.heap.setIfInBounds B.b ob} D ι a v)->(w.heap.setIfInBounds B.b ob)[B.b]? =some ob->gV P {w with heap:=w.heap.setIfInBounds B.b ob} D ι B r'):
  fV P hs D ι (bB g i r') {w with heap:=w.heap.setIfInBounds B.b ob}/\Step hs D ι w D ι {w with heap:=w.heap.setIfInBounds B.b ob}:=by
 obtain⟨B0,Aj,R,jV,oy⟩:=S.row i r hid
 rw[hB]at Aj;injection Aj with Aj;subst Aj
 have other:∀b,b≠B.b->(w.heap.setIfInBounds B.b ob)[b]? =w.heap[b]? :=fun b hb=>by simp[Ne.symm hb]
 have hd:∀b,D b->(w.heap.setIfInBounds B.b ob)[b]? =w.heap[b]? :=fun b hb=>other b (by rintro rfl;exact oy hw hb)
 have hr:∀a v,cq P w D ι a v->cq P {w with heap:=w.heap.setIfInBounds B.b ob} D ι a v:=fun a v h=>h.frame hd (fun _ h=>h) (fun _ _ h=>h)
 refine⟨⟨by simpa using S.lo,fun b hb=>by simpa using S.dead b hb,fun j q h=>?_,fun j j' q q' C C' h h' Hw hC s5 he=>?_⟩,⟨⟨rfl,rfl,rfl,by simp,fun k hk=>other k (by have:=jV hw;omega)⟩,hd,fun _ h=>h,fun _ _ h=>h,fun _ h=>.inl h⟩⟩
 ·unfold bB at h
  split at h
  ·rename_i e
   subst e
   injection h with h;subst h
   exact⟨B,hB,hR hr (by simp[R.lt]),fun _=>jV hw,fun _=>oy hw⟩
  ·rename_i e
   obtain⟨C,hC,RC,k1,k2⟩:=S.row j q h
   refine⟨C,hC,RC.frame (other C.b (fun OU=>e ?_)) hr,k1,k2⟩
   exact(S.inj i j r q B C hid h hw hB hC OU.symm).symm
 ·unfold bB at h h'
  have get:∀j p,(if j=i then some r' else g j)=some p->∃p0,g j=some p0/\(p.w=true->p0.w=true):=fun j p hp=>by
   split at hp
   ·rename_i e;subst e;injection hp with hp;subst hp;exact⟨r,hid,fun _=>hw⟩
   ·exact⟨p,hp,fun h=>h⟩
  obtain⟨p,hp,Oc⟩:=get _ _ h
  obtain⟨p',MJ,_⟩:=get _ _ h'
  exact S.inj j j' p p' C C' hp MJ (Oc Hw) hC s5 he
theorem DL {s:TS} {x y:AV} {u v:Value} (he:gP s x y=some true) (hx:cq P w D ι x u) (hy:cq P w D ι y v):u=v/\∀n,Instr.sameBits n u v=true:=by
 unfold gP at he
 split at he
 ·split at he
  ·rename_i hk
   subst hk
   simp at he;subst he
   rw[cV hx,cV hy]
   exact⟨rfl,fun n=>by cases n<;>simp[Instr.sameBits]⟩
  ·cases he
 ·simp at he;subst he
  rw[eS hx,eS hy]
  exact⟨rfl,fun n=>by cases n<;>simp[Instr.sameBits]⟩
 ·simp at he;subst he
  rw[fm hx,fm hy]
  exact⟨rfl,fun n=>by cases n<;>simp[Instr.sameBits,GH]⟩
 ·cases he
theorem z8 {n:Nat}:∀{ts:List TS} {xs ys:List AV} {vs us:List Value},fx ts xs ys=some true->vs.length=xs.length->us.length=ys.length->(∀(j:Nat) (a:AV),xs[j]? =some a->∃u,vs[j]? =some u/\cq P w D ι a u)->(∀(j:Nat) (a:AV),ys[j]? =some a->∃u,us[j]? =some u/\cq P w D ι a u)->
  us.length=vs.length/\(us.zip vs).all (fun p=>Instr.sameBits n p.1 p.2)=true
 |[],[],[],vs,us,_,h1,h2,_,_=>by
  cases vs<;>cases us<;>simp_all
 |[],x::xs,ys,vs,us,h,_,_,_,_=>by simp[fx]at h
 |[],[],y::ys,vs,us,h,_,_,_,_=>by simp[fx]at h
 |t::ts,[],ys,vs,us,h,_,_,_,_=>by simp[fx]at h
 |t::ts,x::xs,[],vs,us,h,_,_,_,_=>by simp[fx]at h
 |t::ts,x::xs,y::ys,[],us,h,h1,_,_,_=>by simp at h1
 |t::ts,x::xs,y::ys,v::vs,[],h,_,h2,_,_=>by simp at h2
 |t::ts,x::xs,y::ys,v::vs,u::us,h,h1,h2,hx,hy=>by
  unfold fx at h
  split at h
  ·rename_i a b ha hb
   simp only[Option.some.injEq,Bool.and_eq_true]at h
   obtain⟨rfl,rfl⟩:=h
   obtain⟨v',ns,rv⟩:=hx 0 x rfl
   obtain⟨u',D7,ru⟩:=hy 0 y rfl
   simp at ns D7;subst ns;subst D7
   obtain⟨e1,e2⟩:=DL ha rv ru
   obtain⟨q1,q2⟩:=z8 (n:=n) hb (by simpa using h1) (by simpa using h2) (fun j a hj=>by simpa using hx (j+1) a (by simpa using hj)) (fun j a hj=>by simpa using hy (j+1) a (by simpa using hj))
   refine⟨by simp[q1],?_⟩
   simp only[List.zip_cons_cons,List.all_cons,q2,Bool.and_true]
   rw[<-e1]
   have:=e2 n
   rw[<-e1]at this
   exact this
  ·cases h
theorem AS {m:MK} {key:List AV}:∀{rows:List (List AV)} {i j:Nat},fP m key rows i=some (some j)->∃cs,i<=j/\rows[j-i]? =some cs/\fx m.ts key (cs.take m.ks)=some true
 |[],i,j,h=>by simp[fP]at h
 |cs::rows,i,j,h=>by
  unfold fP at h
  split at h
  ·rename_i hq
   simp at h;subst h
   exact⟨cs,Nat.le_refl _,by simp,hq⟩
  ·obtain⟨c,h1,h2,h3⟩:=AS h
   exact⟨c,by omega,by rw[show j-i=(j-(i+1))+1 by omega];simpa using h2,h3⟩
  ·cases h
theorem uQ {m:MK} {k:AV} {rows:List (List AV)} {fi:Option Nat} (h:fF m k rows=some fi):k.isAgg=m.ka/\k.cells.length=m.ks/\(k.cells.all AV.cell=true)/\fP m k.cells rows 0=some fi:=by
 unfold fF at h
 split at h
 ·rename_i hc;exact⟨hc.1,hc.2.1,hc.2.2,h⟩
 ·cases h
theorem H5 {m:MK} {k y:AV} (h1:k.isAgg=m.ka) (h2:k.cells.length=m.ks):part m.ka m.ks (k.cells++[y])=some k/\(k.cells++[y])[m.ks]? =some y:=by
 refine⟨?_,by rw[List.getElem?_append_right (by omega),h2,Nat.sub_self];rfl⟩
 cases hk:m.ka with
 |false=>
  rw[hk]at h1
  rw[uc h1];rfl
 |true=>
  rw[hk]at h1
  cases k<;>simp[AV.isAgg]at h1
  rename_i cs
  simp only[AV.cells]at h2 ⊢
  simp only[part,if_true]
  rw[if_pos (by simp;omega),<-h2,List.take_left']
  rfl
theorem stays {k:TypeId} {m:MK} (hK:Dw P k m) {key kv:AV} {u BG:Value} {cs:List AV} (h1:key.isAgg=m.ka) (hr:cq P w D ι key u) (hp:part m.ka m.ks cs=some kv) (ho:cq P w D ι kv BG) (he:fx m.ts key.cells (cs.take m.ks)=some true):(Instr.keyThatStays BG u).run P w=.ok u w:=by
 have hs:Instr.sameBits 10000 BG u=true:=by
  rcases hK with⟨s,rfl,hs⟩|⟨fs,ts,rfl,qp,wD,cK,dC⟩
  ·rw[uc h1]at he
   cases cs with
   |nil=>simp[part]at hp
   |cons c l=>
    simp[part]at hp;subst hp
    simp only[MK.ks,List.length_cons,List.length_nil,Nat.zero_add,List.take_succ_cons,List.take_zero,fx]at he
    cases hq:gP s key c with
    |none=>rw[hq]at he;simp at he
    |some b=>
     rw[hq]at he;simp at he;subst he
     obtain⟨e1,e2⟩:=DL hq hr ho
     rw[<-e1]
     have:=e2 10000
     rwa [<-e1]at this
  ·cases key<;>simp[AV.isAgg]at h1
   rename_i ks
   simp only[part,if_true]at hp
   split at hp
   ·simp only[Option.some.injEq]at hp;subst hp
    obtain⟨vs,rfl,n1,r1⟩:=qG hr
    obtain⟨us,rfl,n2,r2⟩:=qG ho
    obtain⟨q1,q2⟩:=z8 (n:=9999) (vs:=vs.toList) (us:=us.toList) he (by simpa[AV.cells]using n1) (by simpa using n2) (fun j a hj=>by simpa using r1 j a hj) (fun j a hj=>by simpa using r2 j a hj)
    simp only[Instr.sameBits,Bool.and_eq_true,beq_iff_eq]
    exact⟨by simpa using q1,q2⟩
   ·cases hp
 simp[Instr.keyThatStays,hs]
theorem Ip {es:Array MapEntry} {clock:Nat} (h:Jn es clock) (k v:Value):Jn (es.push ⟨k,v,clock⟩) (clock+1):=by
 refine⟨fun x hx=>?_,?_⟩
 ·simp only[Array.toList_push,List.mem_append,List.mem_singleton]at hx
  rcases hx with hx|rfl
  ·have:=h.1 x hx;omega
  ·exact Nat.lt_succ_self _
 ·simp only[Array.toList_push,List.map_append,List.map_cons,List.map_nil]
  refine List.nodup_append.2 ⟨h.2,by simp,fun a ha b hb=>?_⟩
  obtain⟨x,hx,rfl⟩:=List.mem_map.1 ha
  simp at hb;subst hb
  have:=h.1 x hx;omega
theorem De {es:Array MapEntry} {clock:Nat} (h:Jn es clock) (j:Nat) (k v:Value):Jn (es.modify j fun e=>{e with key:=k,val:=v}) clock:=by
 have e:(es.modify j fun e=>{e with key:=k,val:=v}).toList.map (·.born)=es.toList.map (·.born):=by
  refine List.ext_getElem? fun i=>?_
  simp only[List.getElem?_map,Array.getElem?_toList,Array.getElem?_modify]
  split
  ·cases es[i]? <;>rfl
  ·rfl
 refine⟨fun x hx=>?_,by rw[e];exact h.2⟩
 have hb:x.born∈(es.modify j fun e=>{e with key:=k,val:=v}).toList.map (·.born):=List.mem_map_of_mem hx
 rw[e]at hb
 obtain⟨y,hy,hyb⟩:=List.mem_map.1 hb
 rw[<-hyb];exact h.1 y hy
theorem FY {es:Array MapEntry} {clock:Nat} (h:Jn es clock) {j:Nat} (hj:j<es.size):Jn (es.eraseIdxIfInBounds j) clock:=by
 have e:(es.eraseIdxIfInBounds j).toList=es.toList.eraseIdx j:=by
  unfold Array.eraseIdxIfInBounds
  rw[dif_pos hj,Array.toList_eraseIdx]
 refine⟨fun x hx=>h.1 x ((List.eraseIdx_sublist _ _).subset (by rwa [e]at hx)),?_⟩
 rw[e]
 exact((List.eraseIdx_sublist es.toList j).map (·.born)).nodup h.2
theorem Ad {k y:AV} (h1:k.cells.all AV.cell=true) (h2:y.cell=true):∀a∈k.cells++[y],a.cell=true:=fun a ha=>by
 rcases List.mem_append.1 ha with ha|ha
 ·exact List.all_eq_true.1 h1 a ha
 ·rw[List.mem_singleton.1 ha];exact h2
theorem L3 {t:TypeId} {x k y:Operand} {m:MK} {z:K} {x' k' y':O} {g':Rows} (S:fV P hs D ι g w) (E:bw P w D ι env a) (ho:o.op=.mapUpdate t x k y∨o.op=.insert t x k y) (hc:rl P t=some (m,z)) (hx:cO P x=some x') (hk:cO P k=some k') (hy:cO P y=some y')
  (hv:bJ (.set m) [cE env x',cE env k',cE env y'] g=some g'):BI P hs a o w D ι id .undef g':=by
 obtain⟨kt,e,i,zv,ht,hi,uF,QK,hK⟩:=qk hc
 simp only[bJ,Option.bind_eq_some_iff]at hv
 obtain⟨p,hp,fi,Hk,hv⟩:=hv
 split at hv
 ·rename_i hcond
  obtain⟨hw,hyc,_⟩:=hcond
  simp only[Option.some.injEq]at hv;subst hv
  obtain⟨B,hu,hg,hB,tq,es,clock,hb,e5,hlen,hM⟩:=yO S (cF E hx) hp
  have rk:=cF E hk
  have ry:=cF E hy
  obtain⟨I5,res,hf,hF⟩:=uj (B:=B) hK rk e5 hM Hk
  obtain⟨k1,k2,k3,k4⟩:=uQ Hk
  obtain⟨B',dx,R,_⟩:=S.row p.1 p.2 hg
  rw[hB]at dx;injection dx with dx;subst dx
  obtain⟨pk1,pk2⟩:=H5 (y:=cE env y') k1 k2
  have gp:(getObj B.b).run P w=.ok (.map es clock) w:=MapKept.run_getObj_map hb
  rcases hF with⟨rfl,rfl⟩|⟨j,en,rfl,he,rfl⟩
  ·have nr:=S.Ga (ob:=.map (es.push ⟨a.eval k,a.eval y,clock⟩) (clock+1)) (r':={p.2 with rows:=ei p.2.rows ((cE env k').cells++[cE env y']) none}) hg hw hB fun hr jZ=>⟨R.sz,fun cs cR=>?_,fun vY=>(by rw[tq]at vY;cases vY),fun m' As=>?_,fun c hc=>(by rw[tq]at hc;cases hc)⟩
   ·refine⟨undef,_,ι,.inr ⟨?_,rfl⟩,nr.2,nr.1,cq.undef,fun _ _=>rfl⟩
    rcases ho with ho|ho<;>
    ·simp only[execOp,ho,Instr.mapUpdate,hu,Sem.run_bind,run_underlying ht,Result.andThen_ok,gp,I5,hf,MapKept.run_setObj_map _ hb,Sem.run_pure]
   ·rcases List.mem_append.1 cR with h|h
    ·exact R.flat cs h
    ·rw[List.mem_singleton.1 h];exact Ad k3 hyc
   ·rw[tq]at As;simp only[Option.some.injEq,BK.map.injEq]at As;subst As
    refine⟨(R.map m tq).1,_,_,jZ,by simp[ei,e5],⟨fun cs cR=>?_,Ip hlen.2 _ _⟩,fun q cs hq=>?_⟩
    ·rcases List.mem_append.1 cR with h|h
     ·exact hlen.1 cs h
     ·rw[List.mem_singleton.1 h];simp[k2]
    ·rcases Nat.lt_or_ge q p.2.rows.length with dy|ox
     ·simp only[ei]at hq
      rw[List.getElem?_append_left dy]at hq
      obtain⟨en,kv,vv,q1,q2,q3,q4,q5⟩:=hM q cs hq
      exact⟨en,kv,vv,by rw[Array.getElem?_push_lt (by omega)];rw[Array.getElem?_eq_getElem (by omega)]at q1;simpa using q1,q2,q3,hr _ _ q4,hr _ _ q5⟩
     ·simp only[ei]at hq
      rw[List.getElem?_append_right ox]at hq
      have Le:q=p.2.rows.length:=by
       have:=(List.getElem?_eq_some_iff.1 hq).1
       simp at this;omega
      subst Le
      simp at hq;subst hq
      exact⟨⟨a.eval k,a.eval y,clock⟩,_,_,by rw[<-e5];simp,pk1,pk2,hr _ _ rk,hr _ _ ry⟩
  ·simp only[Nat.zero_add]at k4 Hk hf ⊢
   obtain⟨N0,_,JG,heq⟩:=AS k4
   simp only[Nat.sub_zero]at JG
   obtain⟨OJ,kv,vv,q1,q2,_,q4,_⟩:=hM j N0 JG
   have K6:OJ=en:=by
    have h1:es.toList[j]? =some OJ:=by simpa using q1
    rw[he]at h1;injection h1 with h1;exact h1.symm
   subst K6
   have cK:=stays (w:=w) hK k1 rk q2 q4 heq
   have nr:=S.Ga (ob:=.map (es.modify j fun e=>{e with key:=a.eval k,val:=a.eval y}) clock) (r':={p.2 with rows:=ei p.2.rows ((cE env k').cells++[cE env y']) (some j)}) hg hw hB fun hr jZ=>⟨R.sz,fun cs cR=>?_,fun vY=>(by rw[tq]at vY;cases vY),fun m' As=>?_,fun c hc=>(by rw[tq]at hc;cases hc)⟩
   ·refine⟨undef,_,ι,.inr ⟨?_,rfl⟩,nr.2,nr.1,cq.undef,fun _ _=>rfl⟩
    rcases ho with ho|ho<;>
    ·simp only[execOp,ho,Instr.mapUpdate,hu,Sem.run_bind,run_underlying ht,Result.andThen_ok,gp,I5,hf,q1,Option.map_some,Option.getD_some,cK,MapKept.run_setObj_map _ hb,Sem.run_pure]
   ·rcases List.mem_or_eq_of_mem_set cR with h|h
    ·exact R.flat cs h
    ·rw[h];exact Ad k3 hyc
   ·rw[tq]at As;simp only[Option.some.injEq,BK.map.injEq]at As;subst As
    have gm:=(List.getElem?_eq_some_iff.1 JG).1
    refine⟨(R.map m tq).1,_,_,jZ,by simp[ei,e5],⟨fun cs cR=>?_,De hlen.2 _ _ _⟩,fun q cs hq=>?_⟩
    ·rcases List.mem_or_eq_of_mem_set cR with h|h
     ·exact hlen.1 cs h
     ·rw[h];simp[k2]
    ·simp only[ei,List.getElem?_set]at hq
     split at hq
     ·rename_i N5
      subst N5
      (try rw[if_pos gm]at hq)
      injection hq with hq;subst hq
      exact⟨{OJ with key:=a.eval k,val:=a.eval y},_,_,by rw[Array.getElem?_modify];simp[q1],pk1,pk2,hr _ _ rk,hr _ _ ry⟩
     ·rename_i N5
      obtain⟨en,kv,vv,q1,q2,q3,q4,q5⟩:=hM q cs hq
      exact⟨en,kv,vv,by rw[Array.getElem?_modify];simp[N5,q1],q2,q3,hr _ _ q4,hr _ _ q5⟩
 ·cases hv
theorem L1 {t t':TypeId} {x k:Operand} {m:MK} {z:K} {x' k':O} {g':Rows} (S:fV P hs D ι g w) (E:bw P w D ι env a) (ho:o.op=.call {callee:=.builtin .delete,args:= #[x,k],argTypes:= #[t,t']}) (hc:rl P t=some (m,z)) (hx:cO P x=some x') (hk:cO P k=some k')
  (hv:bJ (.del m) [cE env x',cE env k'] g=some g'):BI P hs a o w D ι id .undef g':=by
 obtain⟨kt,e,i,zv,ht,hi,uF,QK,hK⟩:=qk hc
 simp only[bJ,Option.bind_eq_some_iff]at hv
 obtain⟨p,hp,fi,Hk,hv⟩:=hv
 split at hv
 ·rename_i hw
  simp only[Option.some.injEq]at hv;subst hv
  obtain⟨B,hu,hg,hB,tq,es,clock,hb,e5,hlen,hM⟩:=yO S (cF E hx) hp
  have rk:=cF E hk
  obtain⟨I5,res,hf,hF⟩:=uj (B:=B) hK rk e5 hM Hk
  obtain⟨k1,k2,k3,k4⟩:=uQ Hk
  obtain⟨B',dx,R,_⟩:=S.row p.1 p.2 hg
  rw[hB]at dx;injection dx with dx;subst dx
  have gp:(getObj B.b).run P w=.ok (.map es clock) w:=MapKept.run_getObj_map hb
  have go:∀ob,(Builtin.delete_ #[t,t'] o.type #[a.eval x,a.eval k]).run P w=.ok (.tuple #[]) {w with heap:=w.heap.setIfInBounds B.b ob}->(execOp a.eval o).run P w=.ok (.value undef) {w with heap:=w.heap.setIfInBounds B.b ob}:=fun ob h=>by
   simp only[execOp,ho,resolve,Sem.run_bind,Sem.run_pure,Result.andThen_ok,invoke,builtin,Array.map]
   simp[h,undef]
  rcases hF with⟨rfl,rfl⟩|⟨j,en,rfl,he,rfl⟩
  ·have nr:=S.Ga (ob:=.map es clock) (r':={p.2 with rows:=ep p.2.rows none}) hg hw hB fun hr jZ=>⟨R.sz,R.flat,fun vY=>(by rw[tq]at vY;cases vY),fun m' As=>?_,fun c hc=>(by rw[tq]at hc;cases hc)⟩
   ·refine⟨undef,_,ι,.inl (go _ ?_),nr.2,nr.1,cq.undef,fun _ _=>rfl⟩
    simp[Builtin.delete_,hu,run_underlying ht,gp,I5,hf,MapKept.run_setObj_map _ hb]
   ·rw[tq]at As;simp only[Option.some.injEq,BK.map.injEq]at As;subst As
    exact⟨(R.map m tq).1,_,_,jZ,e5,hlen,fun q cs hq=>by
     obtain⟨en,kv,vv,q1,q2,q3,q4,q5⟩:=hM q cs hq
     exact⟨en,kv,vv,q1,q2,q3,hr _ _ q4,hr _ _ q5⟩⟩
  ·simp only[Nat.zero_add]at hf ⊢
   have gm:j<es.size:=by have:=(List.getElem?_eq_some_iff.1 he).1;simpa using this
   have nr:=S.Ga (ob:=.map (es.eraseIdxIfInBounds j) clock) (r':={p.2 with rows:=ep p.2.rows (some j)}) hg hw hB fun hr jZ=>⟨R.sz,fun cs cR=>R.flat cs (List.mem_of_mem_eraseIdx cR),fun vY=>(by rw[tq]at vY;cases vY),fun m' As=>?_,fun c hc=>(by rw[tq]at hc;cases hc)⟩
   ·refine⟨undef,_,ι,.inl (go _ ?_),nr.2,nr.1,cq.undef,fun _ _=>rfl⟩
    simp[Builtin.delete_,hu,run_underlying ht,gp,I5,hf,MapKept.run_setObj_map _ hb]
   ·rw[tq]at As;simp only[Option.some.injEq,BK.map.injEq]at As;subst As
    have O5:∀q,(es.eraseIdxIfInBounds j)[q]? =(es.toList.eraseIdx j)[q]? :=fun q=>by
     unfold Array.eraseIdxIfInBounds
     rw[dif_pos gm,<-Array.getElem?_toList,Array.toList_eraseIdx]
    refine⟨(R.map m tq).1,_,_,jZ,by simp[ep,Array.eraseIdxIfInBounds,gm,List.length_eraseIdx,<-e5],⟨fun cs cR=>hlen.1 cs (List.mem_of_mem_eraseIdx cR),FY hlen.2 gm⟩,fun q cs hq=>?_⟩
    simp only[ep,List.getElem?_eraseIdx]at hq
    split at hq
    ·rename_i dy
     obtain⟨en,kv,vv,q1,q2,q3,q4,q5⟩:=hM q cs hq
     exact⟨en,kv,vv,by rw[O5,List.getElem?_eraseIdx,if_pos dy];simpa using q1,q2,q3,hr _ _ q4,hr _ _ q5⟩
    ·rename_i dy
     obtain⟨en,kv,vv,q1,q2,q3,q4,q5⟩:=hM (q+1) cs hq
     exact⟨en,kv,vv,by rw[O5,List.getElem?_eraseIdx,if_neg dy];simpa using q1,q2,q3,hr _ _ q4,hr _ _ q5⟩
 ·cases hv
end
end Go.Proofs.YtgoelphibofcmaaGreat.V
