/- A small language in which the program's functions are read by value: its values, its operations, its code, and how the program's code is brought into it. -/
import Derived.WalkKit
import Derived.WalkSpells
import Derived.WalkLawsBesides
import Derived.Lib.Hide
import Derived.Great.BuildSlice
import Derived.Conc.LoneCalls
import Derived.MapKept
import Derived.WideKeyRuns
set_option linter.unusedVariables false
set_option linter.unusedSimpArgs false
set_option maxRecDepth 100000
set_option maxHeartbeats 16000000
namespace Go.Proofs.YtgoelphibofcmaaGreat.V
open Go.RowKit
structure Id where
  site:Nat
  bm:Nat
  deriving DecidableEq,Repr
inductive TS where
  |tI|tB|tS
  deriving Repr,DecidableEq
structure MK where
  ka:Bool
  ts:List TS
  deriving Repr,DecidableEq
inductive AV where
  |int (k:IntKind) (n:Int)
  |bool (b:Bool)
  |str (s:ByteArray)
  |cr|gI|iS
  |sl (rows:List (List AV))
  |own (id:Id) (off len:Nat)
  |ptr (id:Id) (i off:Nat)
  |dj (cs:List AV)
  |agg (cs:List AV)
  |iF (vs:List AV)
  |fn (f:Nat) (cH:List AV)
  |map (id:Id) (m:MK)
  |jc
  |tA (f:Nat) (first:List AV)
  |rf (id:Id)
  deriving Inhabited
def AV.undef:AV:=.iF []
def AV.cell:AV->Bool
  | .agg _| .iF _=>false
  |_=>true
def AV.cells:AV->List AV
  | .agg cs=>cs
  |v=>[v]
inductive K where
  |int (k:IntKind) (n:Int)
  |bool (b:Bool)
  |str (l:List UInt8)
  |cr|gI|iS|jc
  deriving Repr,DecidableEq
def K.val:K->Value
  | .int k n=>.int k n
  | .bool b=>.bool b
  | .str l=>.string ⟨l.toArray⟩
  | .cr=>.slice none 0 0
  | .gI=>.pointer none
  | .iS=>.nilFunc
  | .jc=>.map none
def K.av:K->AV
  | .int k n=>.int k n
  | .bool b=>.bool b
  | .str l=>.str ⟨l.toArray⟩
  | .cr=>.cr
  | .gI=>.gI
  | .iS=>.iS
  | .jc=>.jc
def Gt:Value->Option K
  | .int k n=>some (.int k n)
  | .bool b=>some (.bool b)
  | .string s=>some (.str s.data.toList)
  | .slice none 0 0=>some .cr
  | .pointer none=>some .gI
  | .nilFunc=>some .iS
  | .map none=>some .jc
  |_=>none
inductive O where
  |t (n:Nat)
  |k (c:K)
  |ka (cs:List K)
  |f (n:Nat)
  deriving Repr,DecidableEq
inductive MQ where
  |new (m:MK)
  |look (m:MK) (ok:Bool) (zero:K)
  |len (m:MK)
  deriving Repr,DecidableEq
inductive MW where
  |set (m:MK)
  |del (m:MK)
  deriving Repr,DecidableEq
inductive gn where
  |dm (x:O)
  |pick (c a b:O)
  |new (zero:List K)
  |box (x:O)
  |build (zero:List K) (parts:List (Nat×Nat×O))
  |mD (sz len:Nat) (parts:List O)
  |load (agg:Bool) (n:Nat) (a:O)
  |store (n:Nat) (a x:O)
  |AK (x:O)
  |bin (op:BinOp) (k:IntKind) (x y:O)
  |sh (left:Bool) (x y:O)
  |KI (op:BinOp) (x y:O)
  |ND (neg:Bool) (t:TS) (x y:O)
  |RW (neg:Bool) (ts:List TS) (x y:O)
  |Qj (neg Lx:Bool) (x:O)
  |RY (neg:Bool) (x:O)
  |not (x:O)
  |neg (x:O)
  |conv (k:IntKind) (x:O)
  |EL (x:O)
  |slice (sz:Nat) (x:O) (lo hi:Option O)
  |zT (x:O) (lo hi:Option O)
  |fV (off:Nat) (x:O)
  |field (agg:Bool) (off n:Nat) (x:O)
  |dF (sz:Nat) (x i:O)
  |Lr (len sz:Nat) (x i:O)
  |Lu (x i:O)
  |eK (agg:Bool) (len n:Nat) (x i:O)
  |extract (i:Nat) (x:O)
  |len (x:O)
  |LF (x:O)
  |append (sz:Nat) (x y:O)
  |copy (sz:Nat) (x y:O)
  |clear (zero:List K) (x:O)
  |LK (f:Nat) (cH:List O)
  |LL (f:Nat) (first:List O)
  |jN (zero:List K) (len cap:O)
  |call (f:Nat) (args:List O)
  |td (x:O) (args:List O)
  |mq (q:MQ) (xs:List O)
  |mw (q:MW) (xs:List O)
  |Jf (x:O)
  |I7 (x:O)
  |snd (x y:O)
  |OP (x:O)
  |bad
  deriving Repr,DecidableEq
structure bq where
  dst:Option Nat
  op:gn
  guard:Option (Nat×Bool)
  site:Nat
  hid:List Nat
  deriving Repr,DecidableEq
def q (d:Nat) (op:gn) (s:Nat):bq:=⟨some d,op,none,s,[]⟩
inductive VC where
  |skip
  |eQ (draw:Bool) (ops:List bq)
  |seq (a b:VC)
  |cond (c:O) (x y:VC)
  |block (id:Nat) (c:VC)
  |loop (c:VC)
  |exit (id:Nat)
  |ret
  |one (o:bq) (c:VC)
  |both (a b:VC)
  |loc (t s:Nat) (y:O) (c:VC)
  |Ny (ops:List bq)
  deriving Repr,DecidableEq
inductive nU where
  |tmp (t:Nat)
  |cell (agg:Bool) (n:Nat) (t:Nat)
  deriving Repr,DecidableEq
structure Ac where
  ntmps:Nat
  yk:Nat
  body:VC
  res:List nU
  deriving Repr,DecidableEq
def fG (P:Program) (f:Nat):Bool:=
  match P.funcs[f]? with
  |some fn=>fn.body.isSome&& !(fn.name== "runtime.NumGoroutine")
  |none=>false
def cO (P:Program):Operand->Option O
  | .tmp t=>some (.t t)
  | .const (.agg cs)=>(cs.toList.mapM Gt).map O.ka
  | .const v=>(Gt v).map O.k
  | .global _=>none
  | .func f=>if fG P f then some (.f f)else none
def jz (P:Program) (t:TypeId):Option (List K):=
  match P.info? t with
  |some i=>match i.zero with
    |some v=>if v.cells.size=i.size then v.cells.toList.mapM Gt else none
    |none=>none
  |none=>none
def dW (P:Program) (t:TypeId):Option Nat:=(P.info? t).map (·.size)
def nF (P:Program) (t:TypeId):Option Bool:=
  match P.underlying t with
  |some (.struct _)|some (.array _ _)=>some true
  |some _=>some false
  |none=>none
inductive SU where
  |sc (t:TS)|ag (ts:List TS)
  deriving Repr,DecidableEq
def fj (P:Program) (t:TypeId):Option TS:=
  match P.underlying t with
  |some .bool=>some .tB
  |some (.int _)=>some .tI
  |some .string=>some .tS
  |_=>none
def C9 (P:Program) (inner:List Field->Option (List TS)):Nat->List Field->Option (List TS)
  |_,[]=>some []
  |off,f::r=>
    if f.offset=off/\f.name≠ "_" then
      match fj P f.type with
      |some t=>if nF P f.type=some false then(C9 P inner (off+1) r).map (t::·)else none
      |none=>match P.underlying f.type with
        |some (.struct fs)=>if !P.stoodInHeld f.type then match inner fs.toList with
          |some ts=>if dW P f.type=some ts.length/\ts≠[]then(C9 P inner (off+ts.length) r).map (ts++·)else none
          |none=>none else none
        |_=>none
    else none
def eF (P:Program):Nat->Nat->List Field->Option (List TS)
  |0,_,[]=>some []
  |0,_,_::_=>none
  |d+1,off,fs=>C9 P (eF P d 0) off fs
def Ta (P:Program) (t:TypeId):Option SU:=
  match fj P t with
  |some s=>some (.sc s)
  |none=>match P.underlying t with
    |some (.struct fs)=>if !P.stoodInHeld t&& !P.eqGuardType P.depth t then(eF P 4 0 fs.toList).map SU.ag else none
    |_=>none
def sq (P:Program) (fs:Array Field):List (Nat×O)->Option (List (Nat×Nat×O))
  |[]=>some []
  |(i,x)::r=>match fs[i]? with
    |some f=>match dW P f.type with
      |some n=>(sq P fs r).map ((f.offset,n,x)::·)
      |none=>none
    |none=>none
def sw (P:Program) (ps:Array (Nat×Operand)):Option (List (Nat×O)):=ps.toList.mapM fun(i,x)=>(cO P x).map (i,·)
def q9 (P:Program):Option Operand->Option (Option O)
  |none=>some none
  |some x=>(cO P x).map some
def sr (P:Program) (neg:Bool) (t:TypeId) (x y:Operand):Option gn:=
  match y with
  | .const (.slice none 0 0)=>match P.underlying t with
    |some (.slice _)=>(cO P x).map (gn.Qj neg false)
    |_=>none
  | .const .nilFunc=>match P.underlying t with
    |some (.func ..)=>(cO P x).map (gn.Qj neg true)
    |_=>none
  | .const (.pointer none)=>match P.underlying t with
    |some (.pointer _)=>(cO P x).map (gn.RY neg)
    |_=>none
  |_=>match Ta P t with
    |some (.sc s)=>do pure (.ND neg s (<-cO P x) (<-cO P y))
    |some (.ag ts)=>do pure (.RW neg ts (<-cO P x) (<-cO P y))
    |_=>none
def uM (P:Program) (op:BinOp) (t:TypeId) (x y:Operand):Option gn:=
  match op with
  | .eql=>sr P false t x y
  | .neq=>sr P true t x y
  | .shl=>do pure (.sh true (<-cO P x) (<-cO P y))
  | .shr=>do pure (.sh false (<-cO P x) (<-cO P y))
  |op=>match P.underlying t with
    |some (.int k)=>do pure (.bin op k (<-cO P x) (<-cO P y))
    |some .string=>do pure (.KI op (<-cO P x) (<-cO P y))
    |_=>none
def su (P:Program) (t:TypeId):Option (MK×K):=
  match P.underlying t with
  |some (.map k e)=>match nF P e,(P.info? e).bind (·.zero),fj P k,P.underlying k with
    |some false,some zv,some s,_=>(Gt zv).map fun z=>(⟨false,[s]⟩,z)
    |some false,some zv,none,some (.struct fs)=>match eF P 4 0 fs.toList,Gt zv with
      |some ts,some z=>if !P.stoodInHeld k/\fs.toList.all (fun f=>(fj P f.type).isSome)then some (⟨true,ts⟩,z)else none
      |_,_=>none
    |_,_,_,_=>none
  |_=>none
def nu (P:Program) (c:Call):Option gn:=
  match c.callee with
  | .builtin .len=>match c.args.toList,c.argTypes.toList with
    |[x],[t]=>match P.underlying t with
      |some (.slice _)=>(cO P x).map gn.len
      |some .string=>(cO P x).map gn.LF
      |some (.map _ _)=>match su P t,cO P x with
        |some (m,_),some x=>some (.mq (.len m) [x])
        |_,_=>none
      |some (.chan _ _)=>(cO P x).map gn.I7
      |_=>none
    |_,_=>none
  | .builtin .append=>match c.args.toList,c.argTypes.toList with
    |[x,y],[t,u]=>match P.underlying t with
      |some (.slice e)=>match dW P e,jz P e,P.info? e with
        |some (sz+1),some _,some i=>if i.bytes<=32768/\t=u then do pure (.append (sz+1) (<-cO P x) (<-cO P y))else none
        |_,_,_=>none
      |_=>none
    |_,_=>none
  | .builtin .clear=>match c.args.toList,c.argTypes.toList with
    |[x],[t]=>match P.underlying t with
      |some (.slice e)=>match dW P e,jz P e with
        |some (_+1),some z=>(cO P x).map (gn.clear z)
        |_,_=>none
      |_=>none
    |_,_=>none
  | .value (.func f)=>if fG P f then(c.args.toList.mapM (cO P)).map (gn.call f)else none
  | .value (.tmp t)=>(c.args.toList.mapM (cO P)).map (gn.td (.t t))
  | .builtin .delete=>match c.args.toList,c.argTypes.toList with
    |[x,k],[t,_]=>match su P t,cO P x,cO P k with
      |some (m,_),some x,some k=>some (.mw (.del m) [x,k])
      |_,_,_=>none
    |_,_=>none
  | .builtin .copy=>match c.args.toList,c.argTypes.toList with
    |[x,y],[t,_]=>match P.underlying t with
      |some (.slice e)=>match dW P e with
        |some (sz+1)=>do pure (.copy (sz+1) (<-cO P x) (<-cO P y))
        |_=>none
      |_=>none
    |_,_=>none
  |_=>none
def qL (P:Program) (o:Op):Option gn:=
  match o with
  | .move x| .assign x=>(cO P x).map gn.dm
  | .pick c a b=>do pure (.pick (<-cO P c) (<-cO P a) (<-cO P b))
  | .alloc e=>(jz P e).map gn.new
  | .box _ x=>(cO P x).map gn.box
  | .load t a=>do pure (.load (<-nF P t) (<-dW P t) (<-cO P a))
  | .store t a x=>do pure (.store (<-dW P t) (<-cO P a) (<-cO P x))
  | .nilCheck x=>(cO P x).map gn.AK
  | .binOp op t x y _=>uM P op t x y
  | .unOp .not _ x=>(cO P x).map gn.not
  | .unOp .neg _ x=>(cO P x).map gn.neg
  | .convert s d x=>match P.underlying s,P.underlying d with
    |some (.int _),some (.int k)=>(cO P x).map (gn.conv k)
    |some .string,some .string=>(cO P x).map gn.EL
    |_,_=>none
  | .slice t x lo hi none=>match P.underlying t with
    |some (.slice e)=>do
      pure (.slice (<-dW P e) (<-cO P x) (<-q9 P lo) (<-q9 P hi))
    |some .string=>do pure (.zT (<-cO P x) (<-q9 P lo) (<-q9 P hi))
    |_=>none
  | .fieldAddr s x i=>match P.underlying s with
    |some (.struct fs)=>match fs[i]? with
      |some f=>match dW P f.type with
        |some (_+1)=>(cO P x).map (gn.fV f.offset)
        |_=>none
      |none=>none
    |_=>none
  | .field s x i=>match P.underlying s with
    |some (.struct fs)=>match fs[i]? with
      |some f=>do pure (.field (<-nF P f.type) f.offset (<-dW P f.type) (<-cO P x))
      |none=>none
    |_=>none
  | .indexAddr t x i=>match P.underlying t with
    |some (.slice e)=>match dW P e with
      |some (m+1)=>do pure (.dF (m+1) (<-cO P x) (<-cO P i))
      |_=>none
    |some (.array len e)=>match dW P e with
      |some (m+1)=>do pure (.Lr len (m+1) (<-cO P x) (<-cO P i))
      |_=>none
    |_=>none
  | .index t x i=>match P.underlying t with
    |some .string=>do pure (.Lu (<-cO P x) (<-cO P i))
    |some (.array len e)=>do pure (.eK (<-nF P e) len (<-dW P e) (<-cO P x) (<-cO P i))
    |_=>none
  | .extract x i=>(cO P x).map (gn.extract i)
  | .build t ps=>match P.underlying t with
    |some (.struct fs)=>
      match jz P t,sw P ps with
      |some z,some l=>
        if fs.all (fun f=>(P.info? f.type).isSome)then(sq P fs l).map (gn.build z)else none
      |_,_=>none
    |some (.array _ e)=>
      match jz P t,sw P ps,dW P e with
      |some z,some l,some n=>some (.build z (l.map fun(i,x)=>(i*n,n,x)))
      |_,_,_=>none
    |_=>none
  | .buildSlice t len ps=>match P.underlying t with
    |some (.slice e)=>match dW P e,jz P e,sw P ps with
      |some (sz+1),some _,some l=>
        if len*(sz+1)<=4096/\l.map (·.1)=List.range len then some (.mD (sz+1) len (l.map (·.2)))else none
      |_,_,_=>none
    |_=>none
  | .makeFunc (.func f) first cH=>
    if first= #[]/\fG P f then(cH.toList.mapM (cO P)).map (gn.LK f)else if cH= #[]/\fG P f then(first.toList.mapM (cO P)).map (gn.LL f)else none
  | .makeSlice t l c=>match P.underlying t with
    |some (.slice e)=>match dW P e,jz P e,P.info? e with
      |some (_+1),some z,some i=>if i.bytes<=32768 then do pure (.jN z (<-cO P l) (<-cO P c))else none
      |_,_,_=>none
    |_=>none
  | .call c=>nu P c
  | .makeChan t n=>match P.underlying t with
    |some (.chan _ e)=>match P.info? e with
      |some i=>if i.bytes<=32768 then(cO P n).map gn.Jf else none
      |none=>none
    |_=>none
  | .send x y=>do pure (.snd (<-cO P x) (<-cO P y))
  | .recv t x false=>match P.underlying t with
    |some (.chan _ e)=>match (P.info? e).bind (·.zero)with
      |some _=>(cO P x).map gn.OP
      |none=>none
    |_=>none
  | .makeMap t none=>match su P t with
    |some (m,_)=>some (.mq (.new m) [])
    |none=>none
  | .lookup t x k ok=>match su P t,cO P x,cO P k with
    |some (m,z),some x,some k=>some (.mq (.look m ok z) [x,k])
    |_,_,_=>none
  | .mapUpdate t x k v| .insert t x k v=>match su P t,cO P x,cO P k,cO P v with
    |some (m,_),some x,some k,some v=>some (.mw (.set m) [x,k,v])
    |_,_,_,_=>none
  | .makeInterface _ _=>some .bad
  | .panic _=>some .bad
  |_=>none
inductive SS where
  |pure|look|make|write
  deriving DecidableEq,Repr
def gn.cls:gn->SS
  | .new _| .box _| .mD .. | .jN .. | .mq (.new _) _| .Jf _=>.make
  | .load .. | .dF .. | .slice .. | .call .. | .td .. | .mq .. | .I7 _=>.look
  | .store .. | .append .. | .copy .. | .clear .. | .mw .. | .snd .. | .OP _=>.write
  |_=>.pure
def clash:SS->SS->Bool
  | .pure,_|_,.pure=>false
  | .write,_|_,.write=>true
  |_,_=>false
def jr (ops:Array Oper):Array Nat:=Region.before ops
def qy:gn->Bool:=fun o=>o.cls==.make||o.cls==.write
def gn.lF:gn->Bool
  | .call .. | .td .. =>true
  |_=>false
def CX (ops:Array Oper) (o:Oper):Option (Option (Nat×Bool)):=
  match o.guard with
  |none=>some none
  |some (i,b)=>match (ops[i]?).bind (·.dst)with
    |some t=>some (some (t,b))
    |none=>none
def lU (P:Program) (ops:Array Oper) (nt site0:Nat) (draw mk:Bool) (bs:Array Nat) (hidden:List (Nat×Bool)) (j:Nat) (o:Oper):Option bq:=do
  let v <-qL P o.op
  let g <-CX ops o
  if (o.dst.all fun d=>decide (d<nt))then
    pure {dst:=o.dst,op:=v,guard:=g,site:=site0+j,hid:=if draw then(hidden.filter fun(i,m)=>m&& !(bs.getD j 0).testBit i&&(i !=j||mk&&v.lF)).map fun(i,_)=>site0+i else[]}
  else none
def allM {α:Type} (f:Nat->Oper->Option α):List Oper->Nat->Option (List α)
  |[],_=>some []
  |o::r,j=>do pure ((<-f j o)::(<-allM f r (j+1)))
def gJ:O->List Nat
  | .t n=>[n]
  |_=>[]
def vU:Option O->List Nat
  |some x=>gJ x
  |none=>[]
def gn.gz:gn->List Nat
  | .clear _ x| .dm x| .box x| .load _ _ x| .AK x| .Qj _ _ x| .RY _ x| .not x| .neg x| .conv _ x| .EL x| .fV _ x| .field _ _ _ x| .extract _ x| .len x| .LF x| .Jf x| .I7 x| .OP x=>gJ x
  | .pick c a b=>gJ c++gJ a++gJ b
  | .new _| .bad=>[]
  | .build _ ps=>ps.flatMap fun(_,_,x)=>gJ x
  | .mD _ _ ps=>ps.flatMap gJ
  | .store _ a x| .snd a x=>gJ a++gJ x
  | .bin _ _ x y| .sh _ x y| .KI _ x y| .ND _ _ x y| .RW _ _ x y| .dF _ x y| .Lr _ _ x y| .Lu x y| .eK _ _ _ x y| .append _ x y| .copy _ x y| .jN _ x y=>gJ x++gJ y
  | .slice _ x lo hi| .zT x lo hi=>gJ x++vU lo++vU hi
  | .LK _ l| .LL _ l| .call _ l| .mq _ l| .mw _ l=>l.flatMap gJ
  | .td x l=>gJ x++l.flatMap gJ
def bq.gz (v:bq):List Nat:=v.op.gz++(match v.guard with|some (t,_)=>[t]|none=>[])
def s5 (x y:bq):Bool:=
  (match x.dst with
   |some d=> !y.gz.contains d&&y.dst !=some d
   |none=>true)&&
  (match y.dst with
   |some d=> !x.gz.contains d
   |none=>true)
def bq.makes (v:bq):Bool:=qy v.op||v.op.lF&&v.hid.contains v.site
def EW (x y:bq):Bool:=
  s5 x y&& !clash x.op.cls y.op.cls&&(!x.makes||y.hid.contains x.site)&&(!y.makes||x.hid.contains y.site)&&x.site !=y.site
def EP (ops:Array Oper):Bool:=ops.toList.zipIdx.all fun(o,j)=>o.after.all fun e=> !Region.binds .any e||decide (e.on<j)
def oi (ops:Array Oper) (vl:List bq) (bs:Array Nat):Bool:=
  EP ops&&vl.zipIdx.all fun(y,j)=>vl.zipIdx.all fun(x,i)=> !(decide (i<j))||(bs.getD j 0).testBit i||EW x y
def re (P:Program) (nt site0:Nat) (ops:Array Oper) (draw mk:Bool):Option (List bq):=
  let bs:=if draw then jr ops else #[]
  let hidden:=if draw then ops.toList.zipIdx.map fun(o,i)=>(i,((qL P o.op).map fun v=>qy v||mk&&v.lF).getD false)else[]
  match allM (lU P ops nt site0 draw mk bs hidden) ops.toList 0 with
  |some vl=>if !draw||oi ops vl bs then some vl else none
  |none=>none
def kR (v:bq):Bool:= !v.op.lF&&v.op.cls !=.write
def xN (x y:bq):Bool:=s5 x y&&x.op.cls==.pure||EW x y&&kR x&&kR y
def qi (ops:Array Oper) (vl:List bq) (bs:Array Nat) (listed:Array Bool) (i:Nat):Bool:=
  match vl[i]? with
  |some x=>(List.range ops.size).all fun j=>listed.getD j false||j==i||(bs.getD j 0).testBit i||(match vl[j]? with|some y=>xN x y|none=>false)
  |none=>false
def MX (vl:List bq) (x:bq):Option (Nat×Nat×O):=
  match x.op,x.guard with
  | .append _ (.t t) y,none=>match vl.find? fun v=>v.dst==some t&&v.op.cls==.make with
    |some v=>some (t,v.site,y)
    |none=>none
  |_,_=>none
def EV (s:Nat) (x y:bq):Bool:=s5 x y&&kR y&&y.hid.contains s&&y.hid.contains x.site&&y.site !=s&&y.site !=x.site
def om (ops:Array Oper) (vl:List bq) (bs:Array Nat) (listed:Array Bool) (i s:Nat):Bool:=
  match vl[i]? with
  |some x=>(List.range ops.size).all fun j=>listed.getD j false||j==i||(bs.getD j 0).testBit i||(match vl[j]? with|some y=>EV s x y|none=>false)
  |none=>false
def OG (ops:Array Oper) (vl:List bq) (bs:Array Nat) (listed:Array Bool) (i:Nat):Option (Nat×Nat×Nat×O×bq):=
  match vl[i]? with
  |some x=>match MX vl x with
    |some (t,s,y)=>if om ops vl bs listed i s then some (i,t,s,y,x)else none
    |none=>none
  |none=>none
def AF:List VC->Option VC
  |[]=>none
  |[c]=>some c
  |c::r=>(AF r).map (VC.both c)
def wL (ops:Array Oper) (vl:List bq) (bs:Array Nat):Nat->Array Bool->Option VC
  |0,listed=>
    match Region.ready .any ops listed with
    |[]=>some (.eQ false [])
    |_::_=>none
  |n+1,listed=>
    match Region.ready .any ops listed with
    |[]=>some (.eQ false [])
    |r::rs=>let rdy:=r::rs
      match rdy.find? (qi ops vl bs listed)with
      |some i=>match vl[i]? with
        |some vo=>(wL ops vl bs n (listed.setIfInBounds i true)).map (VC.one vo)
        |none=>none
      |none=>match rdy.findSome? (OG ops vl bs listed)with
        |some (i,t,s,y,vo)=>(wL ops vl bs n (listed.setIfInBounds i true)).map fun c=>VC.loc t s y (.one vo c)
        |none=>match rdy.mapM fun i=>(vl[i]?).bind fun vo=>(wL ops vl bs n (listed.setIfInBounds i true)).map (VC.one vo)with
          |some l=>AF l
          |none=>none
def MU:Op->Bool
  | .send .. | .recv .. =>true
  |_=>false
def Qd (P:Program) (nt site0:Nat) (ops:Array Oper) (draw:Bool) (mode:Nat):Option VC:=
  if draw&&mode==2 then
    match allM (lU P ops nt site0 true false (jr ops) (ops.toList.zipIdx.map fun(o,i)=>(i,((qL P o.op).map qy).getD false))) ops.toList 0 with
    |some vl=>wL ops vl (jr ops) ops.size (Array.replicate ops.size false)
    |none=>none
  else if !draw&&ops.any (fun o=>MU o.op)then(re P nt site0 ops false false).map VC.Ny
  else(re P nt site0 ops draw (mode==1)).map (VC.eQ draw)
def vO (md:List (Nat×Nat)) (id:Nat):Nat:=
  match md with
  |[]=>0
  |(i,m)::r=>if i=id then m else vO r id
def jy (P:Program) (md:List (Nat×Nat)) (nt uV:Nat):Code->Option VC
  | .skip=>some .skip
  | .region id ops draw=>Qd P nt ((uV*1000+id)*1000) ops draw (vO md id)
  | .seq a b=>do pure (.seq (<-jy P md nt uV a) (<-jy P md nt uV b))
  | .cond c x y=>do pure (.cond (<-cO P c) (<-jy P md nt uV x) (<-jy P md nt uV y))
  | .block id c=>(jy P md nt uV c).map (VC.block id)
  | .loop c=>(jy P md nt uV c).map VC.loop
  | .exit id=>some (.exit id)
  | .ret=>some .ret
  |_=>none
def CY (P:Program) (r:ResultVar):Option nU:=
  match r with
  | .tmp t=>some (.tmp t)
  | .cell a t=>do pure (.cell (<-nF P t) (<-dW P t) a)
def w8 (P:Program) (f:Nat) (md:List (Nat×Nat)):Option Ac:=
  match P.funcs[f]? with
  |some fn=>match fn.body with
    |some c=>do
      let b <-jy P md fn.ntmps f c
      let r <-fn.results.toList.mapM (CY P)
      if fn.params.size+fn.nfree<=fn.ntmps then pure {ntmps:=fn.ntmps,yk:=fn.params.size+fn.nfree,body:=b,res:=r}else none
    |none=>none
  |none=>none
def mi (P:Program) (f:Nat):Option Ac:=w8 P f []
end Go.Proofs.YtgoelphibofcmaaGreat.V

namespace Go.Proofs.YtgoelphibofcmaaGreat.V
open Go.RowKit
structure Row where
 w:Bool
 sz:Nat
 rows:List (List AV)
abbrev Rows:=Id->Option Row
structure au where
 get:Rows
 next:Nat
abbrev Env:=Nat->AV
def upd (env:Env):Option Nat->AV->Env
 |some d,v=>fun t=>if t=d then v else env t
 |none,_=>env
inductive Ex where
 |normal
 |exit (id:Nat)
 |ret
 deriving DecidableEq
def cL (env:Env):O->AV
 | .t n=>env n
 | .k c=>c.av
 | .ka cs=>.agg (cs.map K.av)
 | .f n=>.fn n []
def bI (g:Rows) (id:Id) (r:Row):Rows:=fun i=>if i=id then some r else g i
def bW (g:Rows) (id:Id):Rows:=fun i=>if i=id then none else g i
def fY:List Nat->Nat->Rows->Rows
 |[],_,g=>g
 |h::t,n,g=>fun id=>if (h::t).contains id.site=true/\id.bm=n then none else g id
def ro (g:Rows):Rows:=fun id=>(g id).map fun r=>{r with w:=false}
def part (agg:Bool) (n:Nat) (cs:List AV):Option AV:=
 if agg then(if n<=cs.length then some (.agg (cs.take n))else none)else cs.head?
def rowAt (g:Rows) (id:Id) (i:Nat):Option (List AV):=(g id).bind (·.rows[i]?)
def ld (g:Rows) (agg:Bool) (n:Nat):AV->Option AV
 | .ptr id i off=>(rowAt g id i).bind fun cs=>part agg n (cs.drop off)
 | .dj cs=>part agg n cs
 |_=>none
def dD:BinOp->IntKind->Int->Int->Option AV
 | .add,k,a,b=>some (.int k (k.wrap (a+b)))
 | .sub,k,a,b=>some (.int k (k.wrap (a-b)))
 | .mul,k,a,b=>some (.int k (k.wrap (a*b)))
 | .quo,k,a,b=>if b=0 then none else some (.int k (k.wrap (a.tdiv b)))
 | .rem,k,a,b=>if b=0 then none else some (.int k (a.tmod b))
 | .lss,_,a,b=>some (.bool (decide (a<b)))
 | .leq,_,a,b=>some (.bool (decide (a<=b)))
 | .gtr,_,a,b=>some (.bool (decide (b<a)))
 | .geq,_,a,b=>some (.bool (decide (b<=a)))
 | .and,k,a,b=>some (.int k (k.wrap (BitVec.ofInt k.bits a&&& BitVec.ofInt k.bits b).toNat))
 | .or,k,a,b=>some (.int k (k.wrap (BitVec.ofInt k.bits a|||BitVec.ofInt k.bits b).toNat))
 | .xor,k,a,b=>some (.int k (k.wrap (BitVec.ofInt k.bits a ^^^ BitVec.ofInt k.bits b).toNat))
 |_,_,_,_=>none
def ee (op:BinOp):AV->AV->Option AV
 | .int k a,.int k' b=>if k=k' then dD op k a b else none
 |_,_=>none
def gT (left:Bool):AV->AV->Option AV
 | .int k a,.int _ b=>if b<0 then none else some (.int k (if left then k.wrap (a*2 ^ min b.toNat k.bits)else a.fdiv (2 ^ min b.toNat k.bits)))
 |_,_=>none
def ev:BinOp->ByteArray->ByteArray->Option AV
 | .add,a,b=>if a.size+b.size<=9223372036854775807 then some (.str (a++b))else none
 | .lss,a,b=>some (.bool (Op.bytesLess a.toList b.toList))
 | .leq,a,b=>some (.bool (Op.bytesLess a.toList b.toList||(a.toList==b.toList)))
 | .gtr,a,b=>some (.bool !(Op.bytesLess a.toList b.toList||(a.toList==b.toList)))
 | .geq,a,b=>some (.bool !(Op.bytesLess a.toList b.toList))
 |_,_,_=>none
def dc (op:BinOp):AV->AV->Option AV
 | .str a,.str b=>ev op a b
 |_,_=>none
def fU:TS->AV->AV->Option Bool
 | .tI,.int k a,.int k' b=>if k=k' then some (decide (a=b))else none
 | .tB,.bool a,.bool b=>some (a==b)
 | .tS,.str a,.str b=>some (decide (a=b))
 |_,_,_=>none
def eY:List TS->List AV->List AV->Option Bool
 |[],[],[]=>some true
 |t::ts,a::r,b::s=>match fU t a b,eY ts r s with
  |some x,some y=>some (x&&y)
  |_,_=>none
 |_,_,_=>none
def dr (neg b:Bool):Bool:=if neg then !b else b
def da:AV->Option Bool
 | .cr=>some true
 | .own _ _ _=>some false
 | .sl (_::_)=>some false
 |_=>none
def cZ:AV->Option Bool
 | .iS=>some true
 | .fn _ _=>some false
 |_=>none
def J3:AV->Option Bool
 | .gI=>some true
 | .ptr .. | .dj _=>some false
 |_=>none
def ej (Lx:Bool) (x:AV):Option Bool:=if Lx then cZ x else da x
def dO (len:Nat):Option AV->Option Nat
 |none=>some len
 |some (.int _ n)=>if 0<=n/\n<=len then some n.toNat else none
 |_=>none
def dR (h:Nat):Option AV->Option Nat
 |none=>some 0
 |some (.int _ n)=>if 0<=n/\n<=h then some n.toNat else none
 |_=>none
def bR (g:Rows) (sz:Nat) (x:AV) (lo hi:Option AV):Option AV:=
 match x with
 | .cr=>(dO 0 hi).bind fun h=>(dR h lo).map fun _=>.cr
 | .sl rows=>(dO rows.length hi).bind fun h=>(dR h lo).bind fun l=>if ∀cs∈rows,cs.length=sz then some (.sl ((rows.drop l).take (h-l)))else none
 | .own id off len=>(g id).bind fun r=>(dO len hi).bind fun h=>(dR h lo).bind fun l=>if r.sz=sz then some (.own id (off+l) (h-l))else none
 |_=>none
def aX (x:AV) (lo hi:Option AV):Option AV:=
 match x with
 | .str s=>(dO s.size hi).bind fun h=>(dR h lo).map fun l=>.str (s.extract l h)
 |_=>none
def Ew (off:Nat):AV->Option AV
 | .ptr id i o=>some (.ptr id i (o+off))
 | .dj cs=>some (.dj (cs.drop off))
 |_=>none
def bQ (g:Rows) (sz:Nat):AV->AV->Option AV
 | .sl rows,.int _ n=>if 0<=n then(rows[n.toNat]?).bind fun cs=>if cs.length=sz then some (.dj cs)else none else none
 | .own id off len,.int _ n=>if 0<=n/\n<len then(g id).bind fun r=>if r.sz=sz then some (.ptr id (off+n.toNat) 0)else none else none
 |_,_=>none
def cR (len sz:Nat):AV->AV->Option AV
 | .ptr id r off,.int _ n=>if 0<=n/\n<len then some (.ptr id r (off+n.toNat*sz))else none
 | .dj cs,.int _ n=>if 0<=n/\n<len then some (.dj (cs.drop (n.toNat*sz)))else none
 |_,_=>none
def cV:AV->AV->Option AV
 | .str s,.int _ n=>if 0<=n then(s[n.toNat]?).map fun b=>.int .u8 b.toNat else none
 |_,_=>none
def cU (agg:Bool) (len n:Nat):AV->AV->Option AV
 | .agg cs,.int _ i=>if 0<=i/\i<len then part agg n (cs.drop (i.toNat*n))else none
 |_,_=>none
def eh:AV->Option Nat
 | .cr=>some 0
 | .sl rows=>some rows.length
 | .own _ _ n=>some n
 |_=>none
def ek:AV->Option AV
 | .bool b=>some (.bool !b)
 |_=>none
def ei:AV->Option AV
 | .int k n=>some (.int k (k.wrap (0-n)))
 |_=>none
def cQ (k:IntKind):AV->Option AV
 | .int _ n=>some (.int k (k.wrap n))
 |_=>none
def bV:AV->Option AV
 | .str s=>some (.str s)
 |_=>none
def db:AV->AV->AV->Option AV
 | .bool c,a,b=>some (if c then a else b)
 |_,_,_=>none
def ef:AV->Option AV
 | .ptr id i o=>some (.ptr id i o)
 | .dj cs=>some (.dj cs)
 |_=>none
def bP (agg:Bool) (off n:Nat):AV->Option AV
 | .agg cs=>if off+n<=cs.length then part agg n (cs.drop off)else none
 |_=>none
def aP (i:Nat):AV->Option AV
 | .iF vs=>vs[i]?
 |_=>none
def cX:AV->Option AV
 | .str s=>some (.int .i64 s.size)
 |_=>none
def rowOf (sz:Nat) (v:AV):Option (List AV):=if v.cells.length=sz/\v.cells.all AV.cell then some v.cells else none
def cN (v:AV):Option (List AV):=if v.cells.all AV.cell then some v.cells else none
def rowsOf (sz:Nat):List AV->Option (List (List AV))
 |[]=>some []
 |v::r=>(rowOf sz v).bind fun c=>(rowsOf sz r).map fun cs=>c::cs
def cE:List AV->List (Nat×Nat×AV)->Option (List AV)
 |cs,[]=>some cs
 |cs,(off,n,v)::r=>if v.cells.length=n/\off+n<=cs.length/\v.cells.all AV.cell then cE (cs.take off++v.cells++cs.drop (off+n)) r else none
def dE:Nat:=16777216
def gS (zero:List K):AV->AV->Option (Nat×Row)
 | .int _ l,.int _ c=>if 0<=l/\l<=c/\c<=dE then some (l.toNat,⟨true,zero.length,List.replicate l.toNat (zero.map K.av)⟩)else none
 |_,_=>none
def rN:Nat:=1000000000
def MK.ks (m:MK):Nat:=m.ts.length
def MK.lJ (m:MK):Nat:=rN+m.ks
def AV.isAgg:AV->Bool
 | .agg _=>true
 |_=>false
def fQ (m:MK) (key:List AV):List (List AV)->Nat->Option (Option Nat)
 |[],_=>some none
 |r::l,i=>match eY m.ts key (r.take m.ks)with
  |some true=>some (some i)
  |some false=>fQ m key l (i+1)
  |none=>none
def dV (g:Rows) (m:MK):AV->Option (Id×Row)
 | .map id m'=>if m'=m then(g id).map fun r=>(id,r)else none
 |_=>none
def fJ (m:MK) (k:AV) (rows:List (List AV)):Option (Option Nat):=if k.isAgg=m.ka/\k.cells.length=m.ks/\k.cells.all AV.cell then fQ m k.cells rows 0 else none
def ec (m:MK) (z:K) (rows:List (List AV)):Option Nat->Option AV
 |some i=>(rows[i]?).bind fun cs=>cs[m.ks]?
 |none=>some z.av
def bD (q:MQ) (vs:List AV) (g:Rows) (id:Id):Option (AV×Option Row):=
 match q,vs with
 | .new m,[]=>some (.map id m,some ⟨true,m.lJ,[]⟩)
 | .look m ok z,[x,k]=>(dV g m x).bind fun p=>(fJ m k p.2.rows).bind fun fi=>(ec m z p.2.rows fi).map fun v=>(if ok then .iF [v,.bool fi.isSome]else v,none)
 | .len m,[x]=>(dV g m x).map fun p=>(.int .i64 p.2.rows.length,none)
 |_,_=>none
def qh:Nat:=2000000000
def cY:AV->Option Nat
 | .int _ n=>if 0<=n/\n<=1048576 then some n.toNat else none
 |_=>none
def cW (g:Rows):AV->Option AV
 | .rf id=>(g id).map fun r=>.int .i64 r.rows.length
 |_=>none
def ep (g:Rows):AV->AV->Option Rows
 | .rf id,v=>(g id).bind fun r=>if r.w/\qh+r.rows.length<r.sz/\v.cell then some (bI g id {r with rows:=r.rows++[[v]]})else none
 |_,_=>none
def eo (g:Rows):AV->Option (AV×Rows)
 | .rf id=>(g id).bind fun r=>match r.rows with
  |[v]::rest=>if r.w then some (v,bI g id {r with rows:=rest})else none
  |_=>none
 |_=>none
def dI (rows:List (List AV)) (e:List AV):Option Nat->List (List AV)
 |some i=>rows.set i e
 |none=>rows++[e]
def dS (rows:List (List AV)):Option Nat->List (List AV)
 |some i=>rows.eraseIdx i
 |none=>rows
def bF (q:MW) (vs:List AV) (g:Rows):Option Rows:=
 match q,vs with
 | .set m,[x,k,v]=>(dV g m x).bind fun p=>(fJ m k p.2.rows).bind fun fi=>if p.2.w/\v.cell/\v.isAgg=false then some (bI g p.1 {p.2 with rows:=dI p.2.rows (k.cells++[v]) fi})else none
 | .del m,[x,k]=>(dV g m x).bind fun p=>(fJ m k p.2.rows).bind fun fi=>if p.2.w then some (bI g p.1 {p.2 with rows:=dS p.2.rows fi})else none
 |_,_=>none
def eP (o:gn) (ρ:O->AV) (g:Rows) (id:Id):Option (AV×Option Row):=
 match o with
 | .dm x=>some (ρ x,none)
 | .pick c a b=>(db (ρ c) (ρ a) (ρ b)).map (·,none)
 | .new zero=>some (.ptr id 0 0,some ⟨true,zero.length,[zero.map K.av]⟩)
 | .box x=>(cN (ρ x)).map fun cs=>(.ptr id 0 0,some ⟨true,cs.length,[cs]⟩)
 | .build zero parts=>(cE (zero.map K.av) (parts.map fun(o,n,x)=>(o,n,ρ x))).map fun cs=>(.agg cs,none)
 | .mD sz len parts=>(rowsOf sz (parts.map ρ)).map fun rs=>(.own id 0 len,some ⟨true,sz,rs⟩)
 | .load agg n a=>(ld g agg n (ρ a)).map (·,none)
 | .AK x=>(ef (ρ x)).map (·,none)
 | .bin op _ x y=>(ee op (ρ x) (ρ y)).map (·,none)
 | .sh left x y=>(gT left (ρ x) (ρ y)).map (·,none)
 | .KI op x y=>(dc op (ρ x) (ρ y)).map (·,none)
 | .ND neg t x y=>(fU t (ρ x) (ρ y)).map fun b=>(.bool (dr neg b),none)
 | .RW neg ts x y=>match ρ x,ρ y with
  | .agg xs,.agg ys=>(eY ts xs ys).map fun b=>(.bool (dr neg b),none)
  |_,_=>none
 | .Qj neg Lx x=>(ej Lx (ρ x)).map fun b=>(.bool (dr neg b),none)
 | .RY neg x=>(J3 (ρ x)).map fun b=>(.bool (dr neg b),none)
 | .not x=>(ek (ρ x)).map (·,none)
 | .neg x=>(ei (ρ x)).map (·,none)
 | .conv k x=>(cQ k (ρ x)).map (·,none)
 | .EL x=>(bV (ρ x)).map (·,none)
 | .slice sz x lo hi=>(bR g sz (ρ x) (lo.map ρ) (hi.map ρ)).map (·,none)
 | .zT x lo hi=>(aX (ρ x) (lo.map ρ) (hi.map ρ)).map (·,none)
 | .fV off x=>(Ew off (ρ x)).map (·,none)
 | .field agg off n x=>(bP agg off n (ρ x)).map (·,none)
 | .dF sz x i=>(bQ g sz (ρ x) (ρ i)).map (·,none)
 | .Lr len sz x i=>(cR len sz (ρ x) (ρ i)).map (·,none)
 | .Lu x i=>(cV (ρ x) (ρ i)).map (·,none)
 | .eK agg len n x i=>(cU agg len n (ρ x) (ρ i)).map (·,none)
 | .extract i x=>(aP i (ρ x)).map (·,none)
 | .len x=>(eh (ρ x)).map fun(n:Nat)=>(AV.int .i64 (n:Int),none)
 | .LF x=>(cX (ρ x)).map (·,none)
 | .LK f cH=>some (.fn f (cH.map ρ),none)
 | .LL f first=>some (.tA f (first.map ρ),none)
 | .jN zero l c=>(gS zero (ρ l) (ρ c)).map fun(n,r)=>(.own id 0 n,some r)
 | .mq q xs=>bD q (xs.map ρ) g id
 | .Jf x=>(cY (ρ x)).map fun n=>(.rf id,some ⟨true,qh+n,[]⟩)
 | .I7 x=>(cW g (ρ x)).map (·,none)
 |_=>none
def bw (g:Rows):AV->Option (List (List AV))
 | .cr=>some []
 | .sl rows=>some rows
 | .own id off len=>(g id).bind fun r=>if off+len<=r.rows.length then some ((r.rows.drop off).take len)else none
 |_=>none
def cJ (cs:List AV) (off:Nat) (xs:List AV):List AV:=cs.take off++xs++cs.drop (off+xs.length)
def bU (g:Rows) (n:Nat) (v:AV):AV->Option Rows
 | .ptr id i off=>(g id).bind fun r=>(r.rows[i]?).bind fun cs=>
  if r.w/\v.cells.length=n/\v.cells.all AV.cell/\off+n<=cs.length then some (bI g id {r with rows:=r.rows.set i (cJ cs off v.cells)})else none
 |_=>none
def aW (g:Rows) (id:Id) (sz:Nat) (x:AV) (ys:List (List AV)):Option (AV×Rows):=
 match x with
 | .cr=>match ys with
  |[]=>some (.cr,g)
  |y::r=>if (y::r).length<=dE/\(y::r).all (fun c=>c.length==sz&&c.all AV.cell)then some (.own id 0 (y::r).length,bI g id ⟨true,sz,y::r⟩)else none
 | .own i 0 len=>(g i).bind fun r=>
  if r.w/\r.sz=sz/\len=r.rows.length/\len+ys.length<=dE/\ys.all (fun c=>c.length==sz&&c.all AV.cell)then some (.own id 0 (len+ys.length),bI (bW g i) id ⟨true,sz,r.rows++ys⟩)else none
 |_=>none
def Fx (g:Rows) (sz:Nat) (x:AV) (ys:List (List AV)):Option (AV×Rows):=
 match x with
 | .own i off len=>(g i).bind fun r=>
  if r.w/\r.sz=sz/\off+len<=r.rows.length/\ys.all (fun c=>c.length==sz&&c.all AV.cell)then
   some (.int .i64 (min ys.length len:Nat),bI g i {r with rows:=r.rows.take off++ys.take (min ys.length len)++r.rows.drop (off+min ys.length len)})else none
 |_=>none
def bL (g:Rows) (zero:List K) (x:AV):Option Rows:=
 match x with
 | .cr=>some g
 | .own i off len=>(g i).bind fun r=>
  if r.w/\r.sz=zero.length/\off+len<=r.rows.length then
   some (bI g i {r with rows:=r.rows.take off++List.replicate len (zero.map K.av)++r.rows.drop (off+len)})else none
 |_=>none
def fZ (o:gn) (ρ:O->AV) (g:Rows) (id:Id):Option (AV×Rows):=
 match o with
 | .store n a x=>(bU g n (ρ x) (ρ a)).map fun g'=>(.undef,g')
 | .append sz x y=>(bw g (ρ y)).bind fun ys=>aW g id sz (ρ x) ys
 | .copy sz x y=>(bw g (ρ y)).bind fun ys=>Fx g sz (ρ x) ys
 | .clear zero x=>(bL g zero (ρ x)).map fun g'=>(.undef,g')
 | .mw q xs=>(bF q (xs.map ρ) g).map fun g'=>(.undef,g')
 |_=>none
def uN:AV->List AV->Option (Nat×List AV)
 | .fn f cH,l=>some (f,l++cH)
 | .tA f first,l=>some (f,first++l)
 |_,_=>none
abbrev fA:=Nat->List AV->au->(AV->au->Prop)->Prop
mutual
def fz (g:Rows):Nat->AV->Option AV
 |0,_=>none
 |n+1,a=>match a with
  | .own id off len=>match g id with
   |some r=>if r.w then(if off+len<=r.rows.length then(dY g n ((r.rows.drop off).take len)).map AV.sl else none)else none
   |none=>none
  | .ptr id i off=>match g id with
   |some r=>if r.w then(match r.rows[i]? with
    |some cs=>(cK g n (cs.drop off)).map AV.dj
    |none=>none)else none
   |none=>none
  | .agg cs=>(cK g n cs).map AV.agg
  | .iF vs=>(cK g n vs).map AV.iF
  | .fn f cH=>if cH.all AV.cell then(cK g n cH).map (AV.fn f)else none
  | .map _ _| .tA _ _| .rf _=>none
  |v=>some v
 termination_by n _=>(n,0)
def cK (g:Rows):Nat->List AV->Option (List AV)
 |n,[]=>some []
 |n,a::r=>match fz g n a with
  |some b=>(cK g n r).map (b::·)
  |none=>none
 termination_by n l=>(n,l.length+1)
def dY (g:Rows):Nat->List (List AV)->Option (List (List AV))
 |n,[]=>some []
 |n,c::r=>match cK g n c with
  |some b=>(dY g n r).map (b::·)
  |none=>none
 termination_by n l=>(n,(l.map (fun c=>c.length+2)).sum+1)
 decreasing_by all_goals simp_wf;try omega
end
mutual
def gi (g:Rows):Nat->AV->Option AV
 |0,_=>none
 |n+1,a=>match a with
  | .own id off len=>match g id with
   |some r=>if r.w then(if off+len<=r.rows.length then(gQ g n ((r.rows.drop off).take len)).map AV.sl else none)else none
   |none=>none
  | .ptr id i off=>match g id with
   |some r=>if r.w then(match r.rows[i]? with
    |some cs=>(dZ g n (cs.drop off)).map AV.dj
    |none=>none)else none
   |none=>none
  | .agg cs=>(dZ g n cs).map AV.agg
  | .iF vs=>(dZ g n vs).map AV.iF
  | .int k m=>some (.int k m)
  | .bool b=>some (.bool b)
  | .str s=>some (.str s)
  | .cr=>some .cr
  | .gI=>some .gI
  | .iS=>some .iS
  | .jc=>some .jc
  |_=>none
 termination_by n _=>(n,0)
def dZ (g:Rows):Nat->List AV->Option (List AV)
 |n,[]=>some []
 |n,a::r=>match gi g n a with
  |some b=>(dZ g n r).map (b::·)
  |none=>none
 termination_by n l=>(n,l.length+1)
def gQ (g:Rows):Nat->List (List AV)->Option (List (List AV))
 |n,[]=>some []
 |n,c::r=>match dZ g n c with
  |some b=>(gQ g n r).map (b::·)
  |none=>none
 termination_by n l=>(n,(l.map (fun c=>c.length+2)).sum+1)
 decreasing_by all_goals simp_wf;try omega
end
def dM (g:Rows):Rows:=fun id=>(g id).map fun r=>{r with w:=true}
def PC (X:fA) (f:Nat) (args:List AV) (σ:au) (K:AV->Prop):Prop:=
 X f args ⟨ro σ.get,σ.next⟩ fun r σ'=>∃r',fz σ'.get 6 r=some r'/\K r'
def PCv (X:fA) (f:Nat) (args:List AV) (σ:au) (K:AV->Prop):Prop:=
 ∃eC,cK (dM σ.get) 6 args=some eC/\X f eC ⟨fun _=>none,σ.next⟩ fun r σ'=>∃r',gi σ'.get 6 r=some r'/\K r'
def gj (X:fA) (f:Nat) (args:List AV) (σ:au) (K:AV->Prop):Prop:=PC X f args σ K∨PCv X f args σ K
def aJ (g:Option (Nat×Bool)) (env:Env):Bool:=
 match g with
 |none=>true
 |some (t,b)=>match env t with
  | .bool c=>c==b
  |_=>false
def AV.plain:AV->Bool
 | .int .. | .bool _| .str _| .cr| .gI| .iS| .jc=>true
 |_=>false
def CM (X:fA) (f:Nat) (args:List AV) (σ:au) (sz:Nat) (rows:List (List AV)):Prop:=
 (∀c∈rows,∀a∈c,a.plain=true)/\∃eC,cK (dM σ.get) 6 args=some eC/\X f eC ⟨fun _=>none,σ.next⟩ fun r σ'=>∃id,r=.own id 0 rows.length/\σ'.get id=some ⟨true,sz,rows⟩
def cF (X:fA) (draw:Bool) (hid:List Nat) (site:Nat) (f:Nat) (args:List AV) (σ:au) (next:AV->au->Prop):Prop:=
 (∃r,gj X f args ⟨fY hid σ.next σ.get,σ.next+1⟩ (fun r'=>r'=r)/\next r σ)∨
 (draw=false/\X f args ⟨σ.get,σ.next+1⟩ next)∨
 (hid.contains site=true/\∃sz rows,CM X f args ⟨fY hid σ.next σ.get,σ.next+1⟩ sz rows/\next (.own ⟨site,σ.next⟩ 0 rows.length) ⟨bI σ.get ⟨site,σ.next⟩ ⟨true,sz,rows⟩,σ.next⟩)
def fM (X:fA) (draw:Bool) (o:bq) (env:Env) (σ:au) (next:AV->au->Prop):Prop:=
 match o.op with
 | .call f args=>cF X draw o.hid o.site f (args.map (cL env)) σ next
 | .td x args=>match cL env x with
  | .fn f cH=>cF X draw o.hid o.site f (args.map (cL env)++cH) σ next
  | .tA f first=>cF X draw o.hid o.site f (first++args.map (cL env)) σ next
  |_=>False
 | .store .. | .append .. | .copy .. | .clear .. | .mw .. =>match fZ o.op (cL env) σ.get ⟨o.site,σ.next⟩with
  |some (v,g)=>next v ⟨g,σ.next⟩
  |none=>False
 |_=>match eP o.op (cL env) (fY o.hid σ.next σ.get) ⟨o.site,σ.next⟩with
  |some (v,some r)=>next v ⟨bI σ.get ⟨o.site,σ.next⟩ r,σ.next⟩
  |some (v,none)=>next v σ
  |none=>False
def wpOps (X:fA) (draw:Bool):List bq->(Env->au->Prop)->Env->au->Prop
 |[],K,env,σ=>K env ⟨σ.get,σ.next+1⟩
 |o::r,K,env,σ=>
  if aJ o.guard env then fM X draw o env σ fun v σ'=>wpOps X draw r K (upd env o.dst v) σ'
  else wpOps X draw r K (upd env o.dst .undef) σ
def cD:List bq->(Env->au->Prop)->Env->au->Prop
 |[],K,env,σ=>K env ⟨σ.get,σ.next+1⟩
 |o::r,K,env,σ=>o.guard=none/\match o.op with
  | .snd x y=>match ep σ.get (cL env x) (cL env y)with
   |some g=>cD r K (upd env o.dst .undef) ⟨g,σ.next⟩
   |none=>False
  | .OP x=>match eo σ.get (cL env x)with
   |some (v,g)=>cD r K (upd env o.dst v) ⟨g,σ.next⟩
   |none=>False
  |op=>match eP op (cL env) σ.get ⟨o.site,σ.next⟩with
   |some (v,none)=>cD r K (upd env o.dst v) σ
   |_=>False
def dx (next:Env->au->Prop) (Q:Ex->Env->au->Prop):Ex->Env->au->Prop
 | .normal=>next
 |e=>Q e
def bj (id:Nat) (Q:Ex->Env->au->Prop):Ex->Env->au->Prop
 | .exit kI=>if kI=id then Q .normal else Q (.exit kI)
 |e=>Q e
def Fg (W:(Ex->Env->au->Prop)->Env->au->Prop) (Q:Ex->Env->au->Prop):Nat->Env->au->Prop
 |0=>fun _ _=>False
 |n+1=>W (dx (Fg W Q n) Q)
def LG (t s:Nat) (y:O) (env:Env) (n:Nat):Prop:=(∃len,env t=.own ⟨s,n⟩ 0 len)/\∀id o l,cL env y=.own id o l->id.bm≠n
def eb (X:fA):VC->(Ex->Env->au->Prop)->Env->au->Prop
 | .skip,Q=>Q .normal
 | .eQ draw ops,Q=>wpOps X draw ops (Q .normal)
 | .seq a b,Q=>eb X a (dx (eb X b Q) Q)
 | .cond c x y,Q=>fun env σ=>match cL env c with
  | .bool b=>if b then eb X x Q env σ else eb X y Q env σ
  |_=>False
 | .block id c,Q=>eb X c (bj id Q)
 | .loop c,Q=>fun env σ=>∃n,Fg (eb X c) Q n env σ
 | .exit id,Q=>Q (.exit id)
 | .ret,Q=>Q .ret
 | .one o c,Q=>fun env σ=>if aJ o.guard env then fM X false o env σ fun v σ'=>eb X c Q (upd env o.dst v) σ' else eb X c Q (upd env o.dst .undef) σ
 | .both a b,Q=>fun env σ=>eb X a Q env σ/\eb X b Q env σ
 | .loc t s y c,Q=>fun env σ=>LG t s y env σ.next/\eb X c Q env σ
 | .Ny ops,Q=>cD ops (Q .normal)
def iz (env:Env) (g:Rows):nU->Option AV
 | .tmp t=>some (env t)
 | .cell agg n t=>ld g agg n (env t)
def fu (env:Env) (g:Rows):List nU->Option (List AV)
 |[]=>some []
 |r::l=>(iz env g r).bind fun v=>(fu env g l).map (v::·)
def fc:List AV->AV
 |[v]=>v
 |l=>.iF l
def cu (args:List AV):Env:=fun t=>args.getD t .undef
def kU (res:List nU) (K:AV->au->Prop):Ex->Env->au->Prop
 | .exit _,_,_=>False
 |_,env,σ=>∃vs,fu env σ.get res=some vs/\K (fc vs) σ
end Go.Proofs.YtgoelphibofcmaaGreat.V

namespace Go.Proofs.YtgoelphibofcmaaGreat.V
open Go.RowKit
inductive jw (P:Program) (w:World) (D:Nat->Prop):AV->Value->Prop
 |int (k n):jw P w D (.int k n) (.int k n)
 |bool (b):jw P w D (.bool b) (.bool b)
 |str (s):jw P w D (.str s) (.string s)
 |cr:jw P w D .cr (.slice none 0 0)
 |gI:jw P w D .gI (.pointer none)
 |iS:jw P w D .iS .nilFunc
 |Am (a c):c<=maxLen->jw P w D (.sl []) (.slice a 0 c)
 |sl (rows b o n c sz) (vs:Nat->Nat->Value):rows.length=n->n<=c->c<=maxLen->D b->(∀cs∈rows,cs.length=sz)->(∀cs∈rows,∀a∈cs,a.cell=true)->
   (∀i j,i<n->j<sz->w.cell? ⟨b,o+(i*sz+j),none⟩=some (vs i j))->
   (∀i j cs a,rows[i]? =some cs->cs[j]? =some a->jw P w D a (vs i j))->jw P w D (.sl rows) (.slice (some ⟨b,o,none⟩) n c)
 |dj (cs b o) (vs:Nat->Value):D b->(∀a∈cs,a.cell=true)->(∀j,j<cs.length->w.cell? ⟨b,o+j,none⟩=some (vs j))->
   (∀j a,cs[j]? =some a->jw P w D a (vs j))->jw P w D (.dj cs) (.pointer (some ⟨b,o,none⟩))
 |agg (cs) (vs:Array Value) (f:Nat->Value):vs.size=cs.length->(∀a∈cs,a.cell=true)->(∀j,j<cs.length->vs[j]? =some (f j))->(∀j a,cs[j]? =some a->jw P w D a (f j))->jw P w D (.agg cs) (.agg vs)
 |fn (f cH) (vs:Array Value) (g:Nat->Value):fG P f=true->vs.size=cH.length->(∀j,j<cH.length->vs[j]? =some (g j))->(∀j a,cH[j]? =some a->jw P w D a (g j))->jw P w D (.fn f cH) (.func (.func f) #[] vs)
 |jc:jw P w D .jc (.map none)
inductive BK where
 |map (m:MK)
 |chan (cap:Nat)
structure sk where
 b:Nat
 sz:Nat
 C:Nat
 k:Option BK
abbrev Names:=Id->Option sk
inductive dd (P:Program) (w:World) (D:Nat->Prop) (ι:Names):AV->Value->Prop
 |eO (a v):jw P w D a v->dd P w D ι a v
 |own (id off len o cap B):ι id=some B->B.k=none->len<=cap->(cap=0∨o=off*B.sz)->(off+cap)*B.sz<=B.C->cap<=maxLen->dd P w D ι (.own id off len) (.slice (some ⟨B.b,o,none⟩) len cap)
 |ptr (id i off B):ι id=some B->B.k=none->dd P w D ι (.ptr id i off) (.pointer (some ⟨B.b,i*B.sz+off,none⟩))
 |agg (cs) (vs:Array Value) (f:Nat->Value):vs.size=cs.length->(∀a∈cs,a.cell=true)->(∀j,j<cs.length->vs[j]? =some (f j))->(∀j a,cs[j]? =some a->dd P w D ι a (f j))->dd P w D ι (.agg cs) (.agg vs)
 |iF (cs) (vs:Array Value) (f:Nat->Value):vs.size=cs.length->(∀j,j<cs.length->vs[j]? =some (f j))->(∀j a,cs[j]? =some a->dd P w D ι a (f j))->dd P w D ι (.iF cs) (.tuple vs)
 |fn (f cH) (vs:Array Value) (g:Nat->Value):fG P f=true->vs.size=cH.length->(∀j,j<cH.length->vs[j]? =some (g j))->(∀j a,cH[j]? =some a->dd P w D ι a (g j))->dd P w D ι (.fn f cH) (.func (.func f) #[] vs)
 |rf (id c B):ι id=some B->B.k=some (.chan c)->dd P w D ι (.rf id) (.chan (some B.b))
 |map (id m B):ι id=some B->B.k=some (.map m)->dd P w D ι (.map id m) (.map (some B.b))
 |tA (f cH) (vs:Array Value) (g:Nat->Value):fG P f=true->vs.size=cH.length->(∀j,j<cH.length->vs[j]? =some (g j))->(∀j a,cH[j]? =some a->dd P w D ι a (g j))->dd P w D ι (.tA f cH) (.func (.func f) vs #[])
variable {P:Program} {w w':World} {D D':Nat->Prop} {ι ι':Names}
theorem jw.frame (hD:∀b,D b->w'.heap[b]? =w.heap[b]?) (hs:∀b,D b->D' b) {a:AV} {v:Value} (h:jw P w D a v):jw P w' D' a v:=by
 induction h with
 |int k n=>exact .int k n
 |bool b=>exact .bool b
 |str s=>exact .str s
 |cr=>exact .cr
 |gI=>exact .gI
 |iS=>exact .iS
 |jc=>exact .jc
 |Am a c h=>exact .Am a c h
 |sl rows b o n c sz vs h1 h2 h3 h4 h5 h5' h6 _ ih=>exact .sl rows b o n c sz vs h1 h2 h3 (hs b h4) h5 h5' (fun i j hi hj=>(World.cell?_of_block (hD b h4)).trans (h6 i j hi hj)) ih
 |dj cs b o vs h1 NL h2 _ ih=>exact .dj cs b o vs (hs b h1) NL (fun j hj=>(World.cell?_of_block (hD b h1)).trans (h2 j hj)) ih
 |agg cs vs f h1 h2 h3 _ ih=>exact .agg cs vs f h1 h2 h3 ih
 |fn f cH vs g h1 h2 h3 _ ih=>exact .fn f cH vs g h1 h2 h3 ih
theorem dd.frame (hD:∀b,D b->w'.heap[b]? =w.heap[b]?) (hs:∀b,D b->D' b) (hι:∀id B,ι id=some B->ι' id=some B) {a:AV} {v:Value} (h:dd P w D ι a v):dd P w' D' ι' a v:=by
 induction h with
 |eO a v h=>exact .eO a v (h.frame hD hs)
 |map id m B h1 h2=>exact .map id m B (hι _ _ h1) h2
 |rf id c B h1 h2=>exact .rf id c B (hι _ _ h1) h2
 |own id off len o cap B h1 h2 h3 h4 h5 h6=>exact .own id off len o cap B (hι _ _ h1) h2 h3 h4 h5 h6
 |ptr id i off B h1 h2=>exact .ptr id i off B (hι _ _ h1) h2
 |agg cs vs f h1 h2 h3 _ ih=>exact .agg cs vs f h1 h2 h3 ih
 |iF cs vs f h1 h2 _ ih=>exact .iF cs vs f h1 h2 ih
 |fn f cH vs g h1 h2 h3 _ ih=>exact .fn f cH vs g h1 h2 h3 ih
 |tA f cH vs g h1 h2 h3 _ ih=>exact .tA f cH vs g h1 h2 h3 ih
theorem dd.undef:dd P w D ι .undef Go.undef:=.iF [] #[] (fun _=>Go.undef) rfl (fun j hj=>by simp at hj) (fun j a h=>by simp at h)
theorem wh (c:K):dd P w D ι c.av c.val:=by
 cases c with
 |int k n=>exact .eO _ _ (.int k n)
 |bool b=>exact .eO _ _ (.bool b)
 |str l=>exact .eO _ _ (.str _)
 |cr=>exact .eO _ _ .cr
 |gI=>exact .eO _ _ .gI
 |iS=>exact .eO _ _ .iS
 |jc=>exact .eO _ _ .jc
theorem K.mz (c:K):c.av.cell=true:=by cases c<;>rfl
theorem zl {v:Value} {c:K} (h:Gt v=some c):v=c.val:=by
 unfold Gt at h
 split at h<;>simp at h<;>subst h<;>rfl
theorem dd.AJ {a:AV} {v:Value} (h:dd P w D ι a v) (hc:a.cell=true):v.cells= #[v]/\(∀vs,v≠.agg vs)/\(∀vs,v≠.tuple vs):=by
 cases h with
 |eO a v h=>cases h<;>simp_all [AV.cell,Value.cells]
 |own=>simp[Value.cells]
 |map=>simp[Value.cells]
 |rf=>simp[Value.cells]
 |ptr=>simp[Value.cells]
 |agg=>simp[AV.cell]at hc
 |iF=>simp[AV.cell]at hc
 |fn=>simp[Value.cells]
 |tA=>simp[Value.cells]
theorem dd.cells {a:AV} {v:Value} (h:dd P w D ι a v) (ha:a.cells.all AV.cell=true):v.cells.size=a.cells.length/\∃f:Nat->Value,(∀j,j<a.cells.length->v.cells[j]? =some (f j))/\∀j x,a.cells[j]? =some x->dd P w D ι x (f j):=by
 have one:∀(a:AV) (v:Value),a.cell=true->a.cells=[a]->dd P w D ι a v->v.cells.size=a.cells.length/\∃f:Nat->Value,(∀j,j<a.cells.length->v.cells[j]? =some (f j))/\∀j x,a.cells[j]? =some x->dd P w D ι x (f j):=by
  intro a v hc dt h
  obtain⟨h1,_,_⟩:=h.AJ hc
  rw[h1,dt]
  refine⟨rfl,fun _=>v,fun j hj=>?_,fun j x hx=>?_⟩
  ·have:j=0:=by simp at hj;omega
   subst this;rfl
  ·cases j with
   |zero=>simp at hx;subst hx;exact h
   |succ j=>simp at hx
 cases h with
 |eO a v h=>
  cases h with
  |agg cs vs f h1 h2 h3 h4=>exact⟨h1,f,h3,fun j x hx=>.eO _ _ (h4 j x hx)⟩
  |_=>exact one _ _ rfl rfl (.eO _ _ (by constructor<;>assumption))
 |own id off len o cap B h1 h2 h3 h4 h5 h6=>exact one _ _ rfl rfl (.own id off len o cap B h1 h2 h3 h4 h5 h6)
 |ptr id i off B h1 h2=>exact one _ _ rfl rfl (.ptr id i off B h1 h2)
 |map id m B h1 h2=>exact one _ _ rfl rfl (.map id m B h1 h2)
 |rf id c B h1 h2=>exact one _ _ rfl rfl (.rf id c B h1 h2)
 |agg cs vs f h1 h2 h3 h4=>exact⟨h1,f,h3,h4⟩
 |iF cs vs f h1 h2 h3=>simp[AV.cells,AV.cell]at ha
 |fn f cH vs g h1 h2 h3 h4=>exact one _ _ rfl rfl (.fn f cH vs g h1 h2 h3 h4)
 |tA f cH vs g h1 h2 h3 h4=>exact one _ _ rfl rfl (.tA f cH vs g h1 h2 h3 h4)
structure kD (P:Program) (w:World) (D:Nat->Prop) (ι:Names) (B:sk) (r:Row):Prop where
 sz:B.sz=r.sz
 xz:∃cells T,w.heap[B.b]? =some (.cells cells T (0,0))/\cells.size=B.C
 fits:r.rows.length*r.sz<=B.C
 len:∀cs∈r.rows,cs.length=r.sz
 flat:∀cs∈r.rows,∀a∈cs,a.cell=true
 at_:∀i j cs a,r.rows[i]? =some cs->cs[j]? =some a->∃v,w.cell? ⟨B.b,i*r.sz+j,none⟩=some v/\dd P w D ι a v
def FH (es:Array MapEntry) (clock:Nat):Prop:=(∀x∈es.toList,x.born<clock)/\(es.toList.map (·.born)).Nodup
def Ms (P:Program) (w:World) (D:Nat->Prop) (ι:Names) (B:sk) (m:MK) (r:Row):Prop:=
 ∃(es:Array MapEntry) (clock:Nat),w.heap[B.b]? =some (.map es clock)/\es.size=r.rows.length/\((∀cs∈r.rows,cs.length=m.ks+1)/\FH es clock)/\
  ∀(i:Nat) (cs:List AV),r.rows[i]? =some cs->∃(e:MapEntry) (kv vv:AV),es[i]? =some e/\part m.ka m.ks cs=some kv/\cs[m.ks]? =some vv/\dd P w D ι kv e.key/\dd P w D ι vv e.val
def HC (P:Program) (w:World) (D:Nat->Prop) (ι:Names) (B:sk) (c:Nat) (r:Row):Prop:=
 ∃(buf:Array Value) (s q:Nat),w.heap[B.b]? =some (.chan c buf false s q false)/\buf.size=r.rows.length/\
  ∀(i:Nat) (cs:List AV),r.rows[i]? =some cs->∃(a:AV) (u:Value),cs=[a]/\buf[i]? =some u/\dd P w D ι a u
structure gP (P:Program) (w:World) (D:Nat->Prop) (ι:Names) (B:sk) (r:Row):Prop where
 sz:B.sz=r.sz
 flat:∀cs∈r.rows,∀a∈cs,a.cell=true
 row:B.k=none->kD P w D ι B r
 map:∀m,B.k=some (.map m)->r.sz=m.lJ/\Ms P w D ι B m r
 chan:∀c,B.k=some (.chan c)->r.sz=qh+c/\HC P w D ι B c r
theorem kD.obj {B:sk} {r:Row} (R:kD P w D ι B r) (h:B.k=none):gP P w D ι B r:=⟨R.sz,R.flat,fun _=>R,fun m hm=>(by rw[h]at hm;cases hm),fun m hm=>by rw[h]at hm;cases hm⟩
theorem gP.flag {B:sk} {r:Row} (R:gP P w D ι B r) (b:Bool):gP P w D ι B {r with w:=b}:=⟨R.sz,R.flat,fun h=>⟨R.sz,(R.row h).xz,(R.row h).fits,(R.row h).len,R.flat,(R.row h).at_⟩,R.map,R.chan⟩
theorem gP.cells {B:sk} {r:Row} (R:gP P w D ι B r) (h:r.sz<rN):B.k=none:=by
 cases hk:B.k with
 |none=>rfl
 |some m=>
  cases m with
  |map m=>
   have h1:=(R.map m hk).1
   unfold MK.lJ at h1
   omega
  |chan c=>
   have h1:=(R.chan c hk).1
   unfold qh at h1
   unfold rN at h
   omega
theorem gP.LN {B:sk} {r:Row} (R:gP P w D ι B r) {c:Array Value} {T:TypeId} {z:Nat×Nat} (h:w.heap[B.b]? =some (.cells c T z)):B.k=none:=by
 cases hk:B.k with
 |none=>rfl
 |some m=>
  cases m with
  |map m=>obtain⟨_,es,c,h3,_⟩:=R.map m hk;rw[h]at h3;cases h3
  |chan c=>obtain⟨_,buf,s,q,h3,_⟩:=R.chan c hk;rw[h]at h3;cases h3
theorem gP.lt {B:sk} {r:Row} (R:gP P w D ι B r):B.b<w.heap.size:=by
 cases h:B.k with
 |none=>
  obtain⟨c,T,h3,_⟩:=(R.row h).xz
  exact(Array.getElem?_eq_some_iff.1 h3).1
 |some m=>
  cases m with
  |map m=>obtain⟨_,es,c,h3,_⟩:=R.map m h;exact(Array.getElem?_eq_some_iff.1 h3).1
  |chan c=>obtain⟨_,buf,s,q,h3,_⟩:=R.chan c h;exact(Array.getElem?_eq_some_iff.1 h3).1
structure gm (P:Program) (hs:Nat) (D:Nat->Prop) (ι:Names) (g:Rows) (w:World):Prop where
 lo:hs<=w.heap.size
 dead:∀b,D b->b<w.heap.size
 row:∀id r,g id=some r->∃B,ι id=some B/\gP P w D ι B r/\(r.w=true->hs<=B.b)/\(r.w=true->¬D B.b)
 inj:∀id kI r r' B B',g id=some r->g kI=some r'->r.w=true->ι id=some B->ι kI=some B'->B.b=B'.b->id=kI
def Used (ι:Names) (n:Nat) (U:Nat->Prop):Prop:=∀id,ι id≠none->id.bm<n∨(id.bm=n/\U id.site)
structure Step (hs:Nat) (D:Nat->Prop) (ι:Names) (w:World) (D':Nat->Prop) (ι':Names) (w':World):Prop where
 below:Below hs w w'
 tZ:∀b,D b->w'.heap[b]? =w.heap[b]?
 dead:∀b,D b->D' b
 names:∀id B,ι id=some B->ι' id=some B
 new:∀b,D' b->D b∨hs<=b
theorem Step.refl (hs:Nat) (D:Nat->Prop) (ι:Names) (w:World):Step hs D ι w D ι w:=⟨Below.refl _ _,fun _ _=>rfl,fun _ h=>h,fun _ _ h=>h,fun _ h=>.inl h⟩
theorem Step.trans {hs:Nat} {D D' D'':Nat->Prop} {ι ι' RU:Names} {w w' Kt:World} (h:Step hs D ι w D' ι' w') (k:Step hs D' ι' w' D'' RU Kt):Step hs D ι w D'' RU Kt:=
 ⟨h.below.trans k.below,fun b hb=>(k.tZ b (h.dead b hb)).trans (h.tZ b hb),fun b hb=>k.dead b (h.dead b hb),fun id B hB=>k.names id B (h.names id B hB),fun b hb=>by
  rcases k.new b hb with hb|hb
  ·exact h.new b hb
  ·exact .inr hb⟩
theorem Step.rep {hs:Nat} {D D':Nat->Prop} {ι ι':Names} {w w':World} (h:Step hs D ι w D' ι' w') {a:AV} {v:Value} (hr:dd P w D ι a v):dd P w' D' ι' a v:=hr.frame h.tZ h.dead h.names
theorem dn {k n} {v:Value} (h:dd P w D ι (.int k n) v):v=.int k n:=by
 cases h with
 |eO _ _ h=>cases h;rfl
theorem e6 {b} {v:Value} (h:dd P w D ι (.bool b) v):v=.bool b:=by
 cases h with
 |eO _ _ h=>cases h;rfl
theorem fx {s} {v:Value} (h:dd P w D ι (.str s) v):v=.string s:=by
 cases h with
 |eO _ _ h=>cases h;rfl
theorem iM {v:Value} (h:dd P w D ι .cr v):v=.slice none 0 0:=by
 cases h with
 |eO _ _ h=>cases h;rfl
theorem wi {v:Value} (h:dd P w D ι .iS v):v=.nilFunc:=by
 cases h with
 |eO _ _ h=>cases h;rfl
theorem il {cs} {v:Value} (h:dd P w D ι (.agg cs) v):∃(vs:Array Value) (f:Nat->Value),v=.agg vs/\vs.size=cs.length/\(∀a∈cs,a.cell=true)/\(∀j,j<cs.length->vs[j]? =some (f j))/\∀j a,cs[j]? =some a->dd P w D ι a (f j):=by
 cases h with
 |eO _ _ h=>
  cases h with
  |agg cs vs f h1 h2 h3 h4=>exact⟨vs,f,rfl,h1,h2,h3,fun j a h=>.eO _ _ (h4 j a h)⟩
 |agg cs vs f h1 h2 h3 h4=>exact⟨vs,f,rfl,h1,h2,h3,h4⟩
theorem uv {cs} {v:Value} (h:dd P w D ι (.iF cs) v):∃(vs:Array Value) (f:Nat->Value),v=.tuple vs/\vs.size=cs.length/\(∀j,j<cs.length->vs[j]? =some (f j))/\∀j a,cs[j]? =some a->dd P w D ι a (f j):=by
 cases h with
 |eO _ _ h=>cases h
 |iF cs vs f h1 h2 h3=>exact⟨vs,f,rfl,h1,h2,h3⟩
theorem wg {f cH} {v:Value} (h:dd P w D ι (.fn f cH) v):∃(vs:Array Value) (g:Nat->Value),v=.func (.func f) #[] vs/\fG P f=true/\vs.size=cH.length/\(∀j,j<cH.length->vs[j]? =some (g j))/\∀j a,cH[j]? =some a->dd P w D ι a (g j):=by
 cases h with
 |eO _ _ h=>
  cases h with
  |fn f cH vs g h1 h2 h3 h4=>exact⟨vs,g,rfl,h1,h2,h3,fun j a h=>.eO _ _ (h4 j a h)⟩
 |fn f cH vs g h1 h2 h3 h4=>exact⟨vs,g,rfl,h1,h2,h3,h4⟩
theorem Jy {v:Value} (h:dd P w D ι .gI v):v=.pointer none:=by
 cases h with
 |eO _ _ h=>cases h;rfl
theorem Cc {v:Value} (h:dd P w D ι .jc v):v=.map none:=by
 cases h with
 |eO _ _ h=>cases h;rfl
theorem L3 {f cH} {v:Value} (h:dd P w D ι (.tA f cH) v):∃(vs:Array Value) (g:Nat->Value),v=.func (.func f) vs #[]/\fG P f=true/\vs.size=cH.length/\(∀j,j<cH.length->vs[j]? =some (g j))/\∀j a,cH[j]? =some a->dd P w D ι a (g j):=by
 cases h with
 |eO _ _ h=>cases h
 |tA f cH vs g h1 h2 h3 h4=>exact⟨vs,g,rfl,h1,h2,h3,h4⟩
theorem iN {id off len} {v:Value} (h:dd P w D ι (.own id off len) v):∃o cap B,v=.slice (some ⟨B.b,o,none⟩) len cap/\ι id=some B/\len<=cap/\(cap=0∨o=off*B.sz)/\(off+cap)*B.sz<=B.C/\cap<=maxLen/\B.k=none:=by
 cases h with
 |eO _ _ h=>cases h
 |own id off len o cap B h1 h2 h3 h4 h5 h6=>exact⟨o,cap,B,rfl,h1,h3,h4,h5,h6,h2⟩
theorem iO {id i off} {v:Value} (h:dd P w D ι (.ptr id i off) v):∃B,v=.pointer (some ⟨B.b,i*B.sz+off,none⟩)/\ι id=some B/\B.k=none:=by
 cases h with
 |eO _ _ h=>cases h
 |ptr id i off B h1 h2=>exact⟨B,rfl,h1,h2⟩
theorem L1 {id} {v:Value} (h:dd P w D ι (.rf id) v):∃B c,v=.chan (some B.b)/\ι id=some B/\B.k=some (.chan c):=by
 cases h with
 |eO _ _ h=>cases h
 |rf id c B h1 h2=>exact⟨B,c,rfl,h1,h2⟩
theorem Fp {id m} {v:Value} (h:dd P w D ι (.map id m) v):∃B,v=.map (some B.b)/\ι id=some B/\B.k=some (.map m):=by
 cases h with
 |eO _ _ h=>cases h
 |map id m B h1 h2=>exact⟨B,rfl,h1,h2⟩
theorem kT {cs} {v:Value} (h:dd P w D ι (.dj cs) v):∃b o,∃vs:Nat->Value,v=.pointer (some ⟨b,o,none⟩)/\D b/\(∀a∈cs,a.cell=true)/\(∀j,j<cs.length->w.cell? ⟨b,o+j,none⟩=some (vs j))/\∀j a,cs[j]? =some a->jw P w D a (vs j):=by
 cases h with
 |eO _ _ h=>
  cases h with
  |dj cs b o vs h1 h2 h3 h4=>exact⟨b,o,vs,rfl,h1,h2,h3,h4⟩
theorem wj {rows} {v:Value} (h:dd P w D ι (.sl rows) v):∃A c,v=.slice A rows.length c/\rows.length<=c/\c<=maxLen/\
  (rows=[]∨∃b o sz,∃vs:Nat->Nat->Value,A=some ⟨b,o,none⟩/\D b/\(∀cs∈rows,cs.length=sz)/\(∀cs∈rows,∀a∈cs,a.cell=true)/\
   (∀i j,i<rows.length->j<sz->w.cell? ⟨b,o+(i*sz+j),none⟩=some (vs i j))/\∀i j cs a,rows[i]? =some cs->cs[j]? =some a->jw P w D a (vs i j)):=by
 cases h with
 |eO _ _ h=>
  cases h with
  |Am a c h=>exact⟨a,c,rfl,Nat.zero_le _,h,.inl rfl⟩
  |sl rows b o n c sz vs h1 h2 h3 h4 h5 h5' h6 h7=>subst h1;exact⟨_,c,rfl,h2,h3,.inr ⟨b,o,sz,vs,rfl,h4,h5,h5',h6,h7⟩⟩
inductive eD:AV->Prop
 |int (k n):eD (.int k n)
 |bool (b):eD (.bool b)
 |str (s):eD (.str s)
 |cr:eD .cr
 |gI:eD .gI
 |iS:eD .iS
 |sl (rows):rows.length<=maxLen->(∀cs∈rows,∀a∈cs,eD a)->eD (.sl rows)
 |own (id off len):eD (.own id off len)
 |ptr (id i off):eD (.ptr id i off)
 |dj (cs):(∀a∈cs,eD a)->eD (.dj cs)
 |agg (cs):(∀a∈cs,eD a)->eD (.agg cs)
 |iF (cs):(∀a∈cs,eD a)->eD (.iF cs)
 |fn (f cH):(∀a∈cH,eD a)->eD (.fn f cH)
 |map (id m):eD (.map id m)
 |rf (id):eD (.rf id)
 |jc:eD .jc
 |tA (f cH):(∀a∈cH,eD a)->eD (.tA f cH)
theorem eD.len {rows:List (List AV)} (h:eD (.sl rows)):rows.length<=9223372036854775807:=by
 cases h with
 |sl _ h _=>unfold maxLen at h;omega
theorem eD.cell {rows:List (List AV)} (h:eD (.sl rows)) {cs:List AV} (hc:cs∈rows) {a:AV} (ha:a∈cs):eD a:=by
 cases h with
 |sl _ _ h=>exact h cs hc a ha
theorem eD.Ni {cs:List AV} (h:eD (.agg cs)) {a:AV} (ha:a∈cs):eD a:=by
 cases h with
 |agg _ h=>exact h a ha
theorem eD.BA {cs:List AV} (h:eD (.dj cs)) {a:AV} (ha:a∈cs):eD a:=by
 cases h with
 |dj _ h=>exact h a ha
theorem oI {l:List AV} {p:AV->Prop} (h:∀(j:Nat) (a:AV),l[j]? =some a->p a):∀a∈l,p a:=fun a ha=>by
 obtain⟨j,hj,rfl⟩:=List.getElem_of_mem ha
 exact h j _ (List.getElem?_eq_getElem hj)
theorem jw.I6 {a:AV} {v:Value} (h:jw P w D a v):eD a:=by
 induction h with
 |int k n=>exact .int k n
 |bool b=>exact .bool b
 |str s=>exact .str s
 |cr=>exact .cr
 |gI=>exact .gI
 |iS=>exact .iS
 |jc=>exact .jc
 |Am a c h=>exact .sl [] (Nat.zero_le _) (fun cs h=>by cases h)
 |sl rows b o n c sz vs h1 h2 h3 h4 h5 h5' h6 _ ih=>
  exact .sl rows (by omega) fun cs dt a ha=>by
   obtain⟨i,hi,rfl⟩:=List.getElem_of_mem dt
   obtain⟨j,hj,rfl⟩:=List.getElem_of_mem ha
   exact ih i j _ _ (List.getElem?_eq_getElem hi) (List.getElem?_eq_getElem hj)
 |dj cs b o vs h1 NL h2 _ ih=>exact .dj cs (oI ih)
 |agg cs vs f h1 h2 h3 _ ih=>exact .agg cs (oI ih)
 |fn f cH vs g h1 h2 h3 _ ih=>exact .fn f cH (oI ih)
theorem dd.I6 {a:AV} {v:Value} (h:dd P w D ι a v):eD a:=by
 induction h with
 |eO a v h=>exact h.I6
 |own id off len o cap B=>exact .own _ _ _
 |ptr id i off B=>exact .ptr _ _ _
 |map id m B=>exact .map _ _
 |rf id c B=>exact .rf _
 |agg cs vs f h1 h2 h3 _ ih=>exact .agg cs (oI ih)
 |iF cs vs f h1 h2 _ ih=>exact .iF cs (oI ih)
 |fn f cH vs g h1 h2 h3 _ ih=>exact .fn f cH (oI ih)
 |tA f cH vs g h1 h2 h3 _ ih=>exact .tA f cH (oI ih)
end Go.Proofs.YtgoelphibofcmaaGreat.V

namespace Go.Proofs.YtgoelphibofcmaaGreat.V
open Go.RowKit
variable {P:Program} {w w':World} {D D':Nat->Prop} {ι ι':Names}
def cj (P:Program) (w:World) (D:Nat->Prop) (ι:Names) (env:Env) (a:Act):Prop:=∀t,dd P w D ι (env t) (a.tmps.getD t undef)
theorem rM {vs:List Value} {cs:List K} (h:vs.mapM Gt=some cs):cs.length=vs.length/\∀(j:Nat) (c:K),cs[j]? =some c->vs[j]? =some c.val:=by
 induction vs generalizing cs with
 |nil=>simp at h;subst h;simp
 |cons v r ih=>
  simp only[List.mapM_cons,Option.bind_eq_bind,Option.bind_eq_some_iff]at h
  obtain⟨c,hc,pQ,dt,h⟩:=h
  simp at h;subst h
  obtain⟨h1,h2⟩:=ih dt
  refine⟨by simp[h1],fun j d hd=>?_⟩
  cases j with
  |zero=>simp at hd ⊢;subst hd;exact zl hc
  |succ j=>simp at hd ⊢;exact h2 j d hd
theorem UJ {vs:List Value} {cs:List K} (h:vs.mapM Gt=some cs):dd P w D ι (.agg (cs.map K.av)) (.agg vs.toArray):=by
 obtain⟨h1,h2⟩:=rM h
 refine .agg _ _ (fun j=>vs.getD j undef) (by simp[h1]) (fun a ha=>?_) (fun j hj=>?_) (fun j a ha=>?_)
 ·obtain⟨c,_,rfl⟩:=List.mem_map.1 ha;exact c.mz
 ·simp at hj;simp[List.getElem?_eq_getElem (show j<vs.length by omega)]
 ·simp only[List.getElem?_map,Option.map_eq_some_iff]at ha
  obtain⟨c,hc,rfl⟩:=ha
  rw[List.getD_eq_getElem?_getD,h2 j c hc];exact wh c
theorem di {env:Env} {a:Act} {x:Operand} {y:O} (E:cj P w D ι env a) (h:cO P x=some y):dd P w D ι (cL env y) (a.eval x):=by
 unfold cO at h
 split at h
 ·simp at h;subst h;exact E _
 ·simp only[Option.map_eq_some_iff]at h
  obtain⟨cs,dt,rfl⟩:=h
  have:=UJ (P:=P) (w:=w) (D:=D) (ι:=ι) dt
  simpa[Act.eval,cL]using this
 ·simp only[Option.map_eq_some_iff]at h
  obtain⟨c,hc,rfl⟩:=h
  simp only[Act.eval,cL]
  rw[zl hc];exact wh c
 ·simp at h
 ·split at h
  ·rename_i hc
   simp at h;subst h
   simp only[Act.eval,cL]
   exact .fn _ _ _ (fun _=>undef) hc rfl (fun j hj=>by simp at hj) (fun j a h=>by simp at h)
  ·simp at h
def nV (P:Program) (a:Act) (o:Oper) (w:World) (D:Nat->Prop) (ι:Names) (v:AV):Prop:=∃u,(execOp a.eval o).run P w=.ok (.value u) w/\dd P w D ι v u
section
variable {g:Rows} {hs:Nat} {env:Env} {a:Act} {o:Oper} {id:Id} {v:AV}
theorem M8 {x:Operand} {y:O} (E:cj P w D ι env a) (ho:o.op=.move x∨o.op=.assign x) (hx:cO P x=some y):nV P a o w D ι (cL env y):=by
 refine⟨a.eval x,?_,di E hx⟩
 rcases ho with h|h<;>simp[execOp,h,go_sem]
theorem Pm {c x y:Operand} {c' x' y':O} (E:cj P w D ι env a) (ho:o.op=.pick c x y) (hc:cO P c=some c') (hx:cO P x=some x') (hy:cO P y=some y') (hv:db (cL env c') (cL env x') (cL env y')=some v):nV P a o w D ι v:=by
 unfold db at hv
 split at hv
 ·rename_i b hb
  simp at hv;subst hv
  have h1:=e6 (hb▸di E hc)
  refine⟨if b then a.eval x else a.eval y,by simp only[execOp,ho,h1,asBool];rfl,?_⟩
  cases b
  ·exact di E hy
  ·exact di E hx
 ·simp at hv
theorem RI {op:BinOp} {x y:Operand} {x' y':O} {t yt:TypeId} (E:cj P w D ι env a) (ho:o.op=.binOp op t x y yt) (he:op≠.eql) (hn:op≠.neq) (hx:cO P x=some x') (hy:cO P y=some y') (hv:ee op (cL env x') (cL env y')=some v):nV P a o w D ι v:=by
 unfold ee at hv
 split at hv
 ·rename_i k n k' m hb sG
  split at hv
  ·rename_i hk
   subst hk
   have h1:=dn (hb▸di E hx)
   have h2:=dn (sG▸di E hy)
   have key:∀u,(binOp op t (.int k n) (.int k m)).run P w=.ok u w->(execOp a.eval o).run P w=.ok (.value u) w:=fun u hu=>by
    have e0:eqGuard op t x y (.int k n) (.int k m)=pure ():=by unfold eqGuard;cases op<;>rfl
    simp only[execOp,ho,h1,h2,e0]
    simp[go_sem,hu]
   cases op<;>simp only[dD]at hv<;>(try(simp at hv;done))<;>(try split at hv)<;>(try(simp at hv;done))<;>simp only[Option.some.injEq]at hv<;>subst hv<;>
    (refine⟨_,key _ (by simp only[binOp,ne_eq,not_true_eq_false,if_false,Op.intArith,Op.intDiv,Op.intBits,Op.intCmp, *];rfl),?_⟩)<;>
    first
     |exact .eO _ _ (.int _ _)
     |exact .eO _ _ (.bool _)
  ·simp at hv
 ·simp at hv
theorem O6 {op:BinOp} {x y:Operand} {x' y':O} {t yt:TypeId} (E:cj P w D ι env a) (ho:o.op=.binOp op t x y yt) (he:op≠.eql) (hn:op≠.neq) (hx:cO P x=some x') (hy:cO P y=some y') (hv:dc op (cL env x') (cL env y')=some v):nV P a o w D ι v:=by
 unfold dc at hv
 split at hv
 ·rename_i n m hb sG
  have h1:=fx (hb▸di E hx)
  have h2:=fx (sG▸di E hy)
  cases op<;>simp only[ev]at hv<;>(try(simp at hv;done))
  case add=>
   split at hv
   ·rename_i hl
    simp only[Option.some.injEq]at hv;subst hv
    exact⟨_,by simp only[execOp,ho,h1,h2];simp[eqGuard,binOp,go_sem];exact hl,.eO _ _ (.str _)⟩
   ·simp at hv
  all_goals
   simp only[Option.some.injEq]at hv;subst hv
   exact⟨_,by simp only[execOp,ho,h1,h2];simp[eqGuard,binOp,Op.stringOp,go_sem],.eO _ _ (.bool _)⟩
 ·simp at hv
theorem Fv (n m:ByteArray):(n.toList==m.toList)=decide (n=m):=by
 rw[ByteArray.toList_eq,ByteArray.toList_eq]
 by_cases h:n=m
 ·subst h;simp
 ·have:n.data.toList≠m.data.toList:=fun he=>h (ByteArray.ext (Array.ext' he))
  rw[decide_eq_false h];exact beq_eq_false_iff_ne.2 this
theorem pb {t:TypeId} (h:fj P t=some .tB):P.underlying t=some .bool:=by unfold fj at h;split at h<;>simp_all
theorem pc {t:TypeId} (h:fj P t=some .tI):∃k,P.underlying t=some (.int k):=by unfold fj at h;split at h<;>simp_all
theorem pd {t:TypeId} (h:fj P t=some .tS):P.underlying t=some .string:=by unfold fj at h;split at h<;>simp_all
theorem rT {d:Nat} {t:TypeId} {s:TS} {x y:AV} {u u':Value} {b:Bool} (hx:dd P w D ι x u) (hy:dd P w D ι y u') (hv:fU s x y=some b) (ht:fj P t=some s):(Op.equalIn (d+1) t u u').run P w=.ok b w:=by
 unfold fU at hv
 split at hv
 ·rename_i k n k' m
  split at hv
  ·rename_i hk
   subst hk
   simp at hv;subst hv
   obtain⟨q,hq⟩:=pc ht
   rw[dn hx,dn hy,run_equalIn_int _ _ _ _ _ _ _ hq];rfl
  ·simp at hv
 ·simp at hv;subst hv
  rw[e6 hx,e6 hy,run_equalIn_bool' _ _ _ _ _ (pb ht)]
 ·simp at hv;subst hv
  rw[fx hx,fx hy,run_equalIn_string _ _ _ _ _ (pd ht),Fv]
 ·simp at hv
def fe (P:Program) (w:World) (D:Nat->Prop) (ι:Names) (xs:List AV) (vs:Array Value):Prop:=vs.size=xs.length/\∀(j:Nat) (a:AV),xs[j]? =some a->∃u,vs[j]? =some u/\dd P w D ι a u
theorem fe.part {xs:List AV} {vs:Array Value} (h:fe P w D ι xs vs) (off n:Nat) (hn:off+n<=xs.length):fe P w D ι ((xs.drop off).take n) (vs.extract off (off+n)):=by
 refine⟨by simp[h.1];omega,fun j a ha=>?_⟩
 rw[List.getElem?_take]at ha
 split at ha
 ·rename_i hj
  rw[List.getElem?_drop]at ha
  obtain⟨u,h1,h2⟩:=h.2 _ _ ha
  refine⟨u,?_,h2⟩
  rw[Array.getElem?_extract]
  rw[if_pos (by rw[h.1];omega),h1]
 ·simp at ha
theorem rm:∀{ts:List TS} {xs ys:List AV} {b:Bool},eY ts xs ys=some b->xs.length=ts.length/\ys.length=ts.length
 |[],[],[],_,_=>⟨rfl,rfl⟩
 |t::ts,x::xs,y::ys,b,h=>by
  unfold eY at h
  split at h
  ·rename_i c d h1 h2
   have:=rm h2
   simp[this.1,this.2]
  ·simp at h
 |[],[],_::_,_,h=>by simp[eY]at h
 |[],_::_,_,_,h=>by simp[eY]at h
 |_::_,[],_,_,h=>by simp[eY]at h
 |_::_,_::_,[],_,h=>by simp[eY]at h
theorem ET:∀{ts us:List TS} {xs ys:List AV} {b:Bool},eY (ts++us) xs ys=some b->∃c d,eY ts (xs.take ts.length) (ys.take ts.length)=some c/\eY us (xs.drop ts.length) (ys.drop ts.length)=some d/\b=(c&&d)
 |[],us,xs,ys,b,h=>⟨true,b,by simp[eY],by simpa using h,by simp⟩
 |t::ts,us,x::xs,y::ys,b,h=>by
  simp only[List.cons_append]at h
  unfold eY at h
  split at h
  ·rename_i c d h1 h2
   obtain⟨c',d',h3,h4,rfl⟩:=ET h2
   simp at h;subst h
   exact⟨c&&c',d',by simp[eY,h1,h3],by simpa using h4,by simp[Bool.and_assoc]⟩
  ·simp at h
 |t::ts,us,[],ys,b,h=>by simp[eY]at h
 |t::ts,us,x::xs,[],b,h=>by simp[eY]at h
theorem l9 {t:TypeId} {vs:Array Value} {off:Nat} {u:Value} (ha:nF P t=some false) (hu:vs[off]? =some u):(Go.part t vs off).run P w=.ok u w:=by
 unfold nF at ha
 have hi:(isAgg t).run P w=.ok false w:=by
  split at ha<;>simp at ha
  rename_i d h1 h2 hd
  simp only[isAgg,Sem.run_bind,run_underlying hd,Result.andThen_ok]
  cases d<;>simp_all
 simp[Go.part,hi,hu]
theorem sV {t:TypeId} {b:Bool} (ha:nF P t=some b):(isAgg t).run P w=.ok b w:=by
 unfold nF at ha
 split at ha<;>simp at ha<;>subst ha<;>rename_i hd<;>simp only[isAgg,Sem.run_bind,run_underlying hd,Result.andThen_ok]<;>(try simp)
theorem run_sizeOf {t:TypeId} {n:Nat} (h:dW P t=some n):(sizeOf t).run P w=.ok n w:=by
 unfold dW at h
 simp only[Option.map_eq_some_iff]at h
 obtain⟨i,hi,rfl⟩:=h
 simp[sizeOf,typeInfo,hi]
theorem pa {t:TypeId} {vs:Array Value} {off n:Nat} (ha:nF P t=some true) (hn:dW P t=some n):(Go.part t vs off).run P w=.ok (.agg (vs.extract off (off+n))) w:=by
 simp[Go.part,sV ha,run_sizeOf hn]
theorem Ir (d off:Nat):eF P (d+1) off []=some []:=rfl
theorem xL (d off:Nat) (f:Field) (r:List Field):eF P (d+1) off (f::r)=(if f.offset=off/\f.name≠ "_" then
   match fj P f.type with
   |some t=>if nF P f.type=some false then(eF P (d+1) (off+1) r).map (t::·)else none
   |none=>match P.underlying f.type with
    |some (.struct fs)=>if !P.stoodInHeld f.type then match eF P d 0 fs.toList with
     |some ts=>if dW P f.type=some ts.length/\ts≠[]then(eF P (d+1) (off+ts.length) r).map (ts++·)else none
     |none=>none else none
    |_=>none
  else none):=rfl
theorem rS:∀(d:Nat) (fs:List Field) (off:Nat) (ts:List TS),eF P d off fs=some ts->∀(N:Nat) (_:d<=N) (xs ys:List AV) (vs us:Array Value) (b:Bool),fe P w D ι xs vs->fe P w D ι ys us->
  eY ts ((xs.drop off).take ts.length) ((ys.drop off).take ts.length)=some b->(Op.eqFields (N+1) vs us fs).run P w=.ok b w:=by
 intro d
 induction d with
 |zero=>
  intro fs off ts hf N _ xs ys vs us b _ _ he
  cases fs with
  |nil=>simp[eF]at hf;subst hf;simp[eY]at he;subst he;simp[Op.eqFields]
  |cons f r=>simp[eF]at hf
 |succ d ihd=>
  intro fs
  induction fs with
  |nil=>
   intro off ts hf N _ xs ys vs us b _ _ he
   rw[Ir]at hf;simp at hf;subst hf;simp[eY]at he;subst he;simp[Op.eqFields]
  |cons f r ih=>
   intro off ts hf N hN xs ys vs us b hx hy he
   rw[xL]at hf
   split at hf
   ·rename_i hcond
    obtain⟨ho,gU⟩:=hcond
    split at hf
    ·rename_i s hs
     split at hf
     ·rename_i um
      simp only[Option.map_eq_some_iff]at hf
      obtain⟨Ks,hr,rfl⟩:=hf
      obtain⟨l1,l2⟩:=rm he
      simp only[List.length_cons,List.length_take,List.length_drop]at l1 l2
      have Al:off<xs.length:=by omega
      have hyo:off<ys.length:=by omega
      rw[List.drop_eq_getElem_cons Al,List.drop_eq_getElem_cons hyo,List.length_cons,List.take_succ_cons,List.take_succ_cons]at he
      unfold eY at he
      split at he
      ·rename_i c d' h1 h2
       simp at he;subst he
       obtain⟨u,hu,ru⟩:=hx.2 off _ (List.getElem?_eq_getElem Al)
       obtain⟨u',E6,ru'⟩:=hy.2 off _ (List.getElem?_eq_getElem hyo)
       have:=ih (off+1) Ks hr N hN xs ys vs us d' hx hy h2
       simp only[Op.eqFields,if_pos gU,Sem.run_bind,ho,l9 um hu,l9 um E6,Result.andThen_ok,rT ru ru' h1 hs,Sem.run_ite]
       cases c<;>simp[this]
      ·simp at he
     ·simp at hf
    ·split at hf
     ·rename_i Ql rz
      split at hf
      ·rename_i dH
       split at hf
       ·rename_i ts1 hts1
        split at hf
        ·rename_i fb
         simp only[Option.map_eq_some_iff]at hf
         obtain⟨Ks,hr,rfl⟩:=hf
         obtain⟨c,d',h1,h2,rfl⟩:=ET he
         obtain⟨l1,l2⟩:=rm he
         simp only[List.length_append,List.length_take,List.length_drop]at l1 l2
         have um:nF P f.type=some true:=by simp[nF,rz]
         have lf:0<ts1.length:=List.length_pos_iff.2 fb.2
         have IW:off+ts1.length<=xs.length:=by omega
         have Rf:off+ts1.length<=ys.length:=by omega
         rw[List.drop_take,List.drop_drop,List.drop_take,List.drop_drop]at h2
         rw[List.take_take,List.take_take]at h1
         simp only[List.length_append]at h1 h2
         rw[Nat.min_eq_left (by omega)]at h1
         have e2:ts1.length+Ks.length-ts1.length=Ks.length:=by omega
         rw[e2]at h2
         have:=ih (off+ts1.length) Ks hr N hN xs ys vs us d' hx hy h2
         have fI:=ihd Ql.toList 0 ts1 hts1 (N-1) (by omega) _ _ _ _ c (hx.part off ts1.length IW) (hy.part off ts1.length Rf) (by simpa[List.take_take]using h1)
         have hN':N-1+1=N:=by omega
         rw[hN']at fI
         have ME:P.fieldsOf f.type=Ql:=by simp[Program.fieldsOf,rz]
         simp only[Op.eqFields,if_pos gU,Sem.run_bind,ho,pa um fb.1,Result.andThen_ok,Sem.run_ite]
         rw[run_equalIn_struct w N f.type _ _ (by rw[ME];exact rz) (by simpa using dH),ME,fI]
         cases c<;>simp[this]
        ·simp at hf
       ·simp at hf
      ·simp at hf
     ·simp at hf
   ·simp at hf
theorem RM {x y:Operand} {x' y':O} {t yt:TypeId} {neg:Bool} {s:TS} {b:Bool} (E:cj P w D ι env a) (ho:o.op=.binOp (if neg then .neq else .eql) t x y yt) (hs:fj P t=some s) (hx:cO P x=some x') (hy:cO P y=some y')
  (hv:fU s (cL env x') (cL env y')=some b):nV P a o w D ι (.bool (dr neg b)):=by
 have rx:=di E hx
 have ry:=di E hy
 refine⟨.bool (dr neg b),?_,.eO _ _ (.bool _)⟩
 have e0:(eqGuard (if neg then .neq else .eql) t x y (a.eval x) (a.eval y)).run P w=.ok () w:=by
  unfold fU at hv
  split at hv
  ·rename_i k n k' m h1 h2
   rw[h1]at rx;rw[h2]at ry
   rw[dn rx,dn ry];unfold eqGuard;cases neg<;>simp
  ·rename_i n m h1 h2
   rw[h1]at rx;rw[h2]at ry
   rw[e6 rx,e6 ry];unfold eqGuard;cases neg<;>simp
  ·rename_i n m h1 h2
   rw[h1]at rx;rw[h2]at ry
   rw[fx rx,fx ry];unfold eqGuard;cases neg<;>simp
  ·simp at hv
 have e1:(binOp (if neg then .neq else .eql) t (a.eval x) (a.eval y)).run P w=.ok (.bool (dr neg b)) w:=by
  have q:=rT (d:=9999) rx ry hv hs
  unfold fU at hv
  split at hv
  ·rename_i k n k' m h1 h2
   split at hv
   ·rename_i hk
    subst hk
    simp at hv;subst hv
    rw[h1]at rx;rw[h2]at ry
    rw[dn rx,dn ry]
    cases neg<;>simp only[binOp,ne_eq,not_true_eq_false,if_false,Op.intCmp,dr,if_true,Bool.false_eq_true]<;>simp[bne]<;>rfl
   ·simp at hv
  ·rename_i n m h1 h2
   rw[h1]at rx;rw[h2]at ry
   rw[e6 rx,e6 ry]at q ⊢
   cases neg<;>simp only[binOp,dr,if_true,Bool.false_eq_true,if_false,Sem.run_bind]<;>simp[Op.equal,Op.maxDepth,q]
  ·rename_i n m h1 h2
   simp at hv;subst hv
   rw[h1]at rx;rw[h2]at ry
   rw[fx rx,fx ry]
   cases neg<;>simp[binOp,Op.stringOp,dr,Fv]
  ·simp at hv
 simp only[execOp,ho,Sem.run_bind,e0,e1,Result.andThen_ok,Sem.run_pure]
theorem RK {x y:Operand} {x' y':O} {t yt:TypeId} {neg:Bool} {ts:List TS} {fs:Array Field} {xs ys:List AV} {b:Bool} (E:cj P w D ι env a) (ho:o.op=.binOp (if neg then .neq else .eql) t x y yt) (rz:P.underlying t=some (.struct fs)) (dH:P.stoodInHeld t=false) (K1:P.eqGuardType P.depth t=false)
  (xh:eF P 4 0 fs.toList=some ts) (hx:cO P x=some x') (hy:cO P y=some y') (h1:cL env x'=.agg xs) (h2:cL env y'=.agg ys)
  (hv:eY ts xs ys=some b):nV P a o w D ι (.bool (dr neg b)):=by
 obtain⟨vs,f,rx,n1,_,f1,r1⟩:=il (h1▸di E hx)
 obtain⟨us,f',ry,n2,_,f2,r2⟩:=il (h2▸di E hy)
 refine⟨.bool (dr neg b),?_,.eO _ _ (.bool _)⟩
 obtain⟨l1,l2⟩:=rm hv
 have L:∀(xs:List AV) (vs:Array Value) (f:Nat->Value),vs.size=xs.length->(∀j,j<xs.length->vs[j]? =some (f j))->(∀j a,xs[j]? =some a->dd P w D ι a (f j))->fe P w D ι xs vs:=fun xs vs f h1 h2 h3=>
  ⟨h1,fun j a ha=>⟨f j,h2 j (List.getElem?_eq_some_iff.1 ha).1,h3 j a ha⟩⟩
 have q:=rS (w:=w) 4 fs.toList 0 ts xh 9998 (by omega) xs ys vs us b (L _ _ _ n1 f1 r1) (L _ _ _ n2 f2 r2) (by simpa[List.take_of_length_le,l1,l2]using hv)
 have ME:P.fieldsOf t=fs:=by simp[Program.fieldsOf,rz]
 have q2:(Op.equal t (.agg vs) (.agg us)).run P w=.ok b w:=by
  unfold Op.equal
  rw[show Op.maxDepth=9999+1 from rfl,run_equalIn_struct w 9999 t _ _ (by rw[ME];exact rz) dH,ME,q]
 simp only[execOp,ho,Sem.run_bind,rx,ry,run_eqGuard_agg w _ _ _ _ _ _ K1,Result.andThen_ok]
 cases neg<;>simp[binOp,q2,dr]
theorem O9 {x:Operand} {x':O} {t yt e:TypeId} {neg:Bool} {b:Bool} (E:cj P w D ι env a) (ho:o.op=.binOp (if neg then .neq else .eql) t x (.const (.slice none 0 0)) yt) (ht:P.underlying t=some (.slice e)) (hx:cO P x=some x')
  (hv:da (cL env x')=some b):nV P a o w D ι (.bool (dr neg b)):=by
 have hr:=di E hx
 have rx:∃A n c,a.eval x=.slice A n c/\b=A.isNone:=by
  unfold da at hv
  split at hv<;>simp at hv<;>subst hv<;>rename_i hh
  ·rw[hh]at hr;exact⟨_,_,_,iM hr,rfl⟩
  ·rw[hh]at hr;obtain⟨o,cap,B,h,_⟩:=iN hr
   exact⟨_,_,_,h,rfl⟩
  ·rw[hh]at hr
   obtain⟨A,c,h',_,_,h⟩:=wj hr
   rcases h with h|⟨b,o,sz,vs,rfl,_⟩
   ·simp at h
   ·exact⟨_,_,_,h',rfl⟩
 refine⟨.bool (dr neg b),?_,.eO _ _ (.bool _)⟩
 obtain⟨A,n,c,h,rfl⟩:=rx
 have hq:(Op.equal t (.slice A n c) (.slice none 0 0)).run P w=.ok A.isNone w:=by
  unfold Op.equal
  rw[show Op.maxDepth=9999+1 from rfl,Op.equalIn]
  simp only[Sem.run_bind,run_underlying ht,Result.andThen_ok]
  cases A<;>rfl
 have hc:a.eval (.const (.slice none 0 0))=.slice none 0 0:=rfl
 simp only[execOp,ho,h,hc]
 cases neg<;>simp only[Bool.false_eq_true,if_false,if_true,Bool.not_true,Bool.not_false,eqGuard,binOp,dr,Sem.run_bind,hq,Result.andThen_ok,Sem.run_pure]
theorem RL {x:Operand} {x':O} {t yt e:TypeId} {neg:Bool} {b:Bool} (E:cj P w D ι env a) (ho:o.op=.binOp (if neg then .neq else .eql) t x (.const (.pointer none)) yt) (ht:P.underlying t=some (.pointer e)) (hx:cO P x=some x')
  (hv:J3 (cL env x')=some b):nV P a o w D ι (.bool (dr neg b)):=by
 have hr:=di E hx
 have rx:∃A,a.eval x=.pointer A/\b=A.isNone:=by
  unfold J3 at hv
  split at hv<;>simp at hv<;>subst hv<;>rename_i hh
  ·rw[hh]at hr;exact⟨_,Jy hr,rfl⟩
  ·rw[hh]at hr;obtain⟨B,h,_⟩:=iO hr
   exact⟨_,h,rfl⟩
  ·rw[hh]at hr;obtain⟨_,_,_,h,_⟩:=kT hr
   exact⟨_,h,rfl⟩
 refine⟨.bool (dr neg b),?_,.eO _ _ (.bool _)⟩
 obtain⟨A,h,rfl⟩:=rx
 have hq:(Op.equal t (.pointer A) (.pointer none)).run P w=.ok A.isNone w:=by
  unfold Op.equal
  rw[show Op.maxDepth=9999+1 from rfl,Op.equalIn]
  simp only[Sem.run_bind,run_underlying ht,Result.andThen_ok]
  cases A<;>rfl
 have hc:a.eval (.const (.pointer none))=.pointer none:=rfl
 simp only[execOp,ho,h,hc]
 cases neg<;>simp only[Bool.false_eq_true,if_false,if_true,Bool.not_true,Bool.not_false,eqGuard,binOp,dr,Sem.run_bind,hq,Result.andThen_ok,Sem.run_pure]
theorem O8 {x:Operand} {x':O} {t yt:TypeId} {p r:Array TypeId} {va:Bool} {neg:Bool} {b:Bool} (E:cj P w D ι env a) (ho:o.op=.binOp (if neg then .neq else .eql) t x (.const .nilFunc) yt) (ht:P.underlying t=some (.func p r va)) (hx:cO P x=some x')
  (hv:cZ (cL env x')=some b):nV P a o w D ι (.bool (dr neg b)):=by
 have hr:=di E hx
 have rx:a.eval x=.nilFunc/\b=true∨∃f c,a.eval x=.func f #[] c/\b=false:=by
  unfold cZ at hv
  split at hv<;>simp at hv<;>subst hv<;>rename_i hh
  ·rw[hh]at hr;exact .inl ⟨wi hr,rfl⟩
  ·rw[hh]at hr;obtain⟨vs,g,h,_⟩:=wg hr
   exact .inr ⟨_,_,h,rfl⟩
 refine⟨.bool (dr neg b),?_,.eO _ _ (.bool _)⟩
 have hc:a.eval (.const .nilFunc)=.nilFunc:=rfl
 rcases rx with⟨h,rfl⟩|⟨f,c,h,rfl⟩
 ·have hq:(Op.equal t .nilFunc .nilFunc).run P w=.ok true w:=by
   unfold Op.equal
   rw[show Op.maxDepth=9999+1 from rfl,Op.equalIn]
   simp only[Sem.run_bind,run_underlying ht,Result.andThen_ok]
   rfl
  simp only[execOp,ho,h,hc]
  cases neg<;>simp only[Bool.false_eq_true,if_false,if_true,Bool.not_true,Bool.not_false,eqGuard,binOp,dr,Sem.run_bind,hq,Result.andThen_ok,Sem.run_pure]
 ·have hq:(Op.equal t (.func f #[] c) .nilFunc).run P w=.ok false w:=by
   unfold Op.equal
   rw[show Op.maxDepth=9999+1 from rfl,Op.equalIn]
   simp only[Sem.run_bind,run_underlying ht,Result.andThen_ok]
   rfl
  simp only[execOp,ho,h,hc]
  cases neg<;>simp only[Bool.false_eq_true,if_false,if_true,Bool.not_true,Bool.not_false,eqGuard,binOp,dr,Sem.run_bind,hq,Result.andThen_ok,Sem.run_pure]
theorem RQ {x:Operand} {x':O} {t:TypeId} (E:cj P w D ι env a) (ho:o.op=.unOp .not t x) (hx:cO P x=some x') (hv:ek (cL env x')=some v):nV P a o w D ι v:=by
 have hr:=di E hx
 unfold ek at hv
 split at hv
 ·rename_i b hb
  simp at hv;subst hv
  rw[hb]at hr
  exact⟨_,by simp only[execOp,ho,e6 hr];rfl,.eO _ _ (.bool _)⟩
 ·simp at hv
theorem RP {x:Operand} {x':O} {t:TypeId} (E:cj P w D ι env a) (ho:o.op=.unOp .neg t x) (hx:cO P x=some x') (hv:ei (cL env x')=some v):nV P a o w D ι v:=by
 have hr:=di E hx
 unfold ei at hv
 split at hv
 ·rename_i k n hb
  simp at hv;subst hv
  rw[hb]at hr
  refine⟨_,by simp only[execOp,ho,dn hr];rfl,?_⟩
  rw[Int.zero_sub];exact .eO _ _ (.int _ _)
 ·simp at hv
theorem O7 {x:Operand} {x':O} {s d:TypeId} {k q:IntKind} (E:cj P w D ι env a) (ho:o.op=.convert s d x) (hs:P.underlying s=some (.int q)) (hd:P.underlying d=some (.int k)) (hx:cO P x=some x') (hv:cQ k (cL env x')=some v):nV P a o w D ι v:=by
 have hr:=di E hx
 unfold cQ at hv
 split at hv
 ·rename_i k' n hb
  simp at hv;subst hv
  rw[hb]at hr
  refine⟨.int k (k.wrap n),?_,.eO _ _ (.int _ _)⟩
  simp only[execOp,ho,dn hr,convert,Sem.run_bind,run_underlying hs,run_underlying hd,Result.andThen_ok,Conv.intToInt,Sem.run_pure]
 ·simp at hv
theorem Mm {x:Operand} {x':O} {s:TypeId} {i:Nat} {fs:Array Field} {f:Field} {m:Nat} (E:cj P w D ι env a) (ho:o.op=.fieldAddr s x i) (hs:P.underlying s=some (.struct fs)) (hf:fs[i]? =some f) (hm:dW P f.type=some (m+1)) (hx:cO P x=some x')
  (hv:Ew f.offset (cL env x')=some v):nV P a o w D ι v:=by
 have hr:=di E hx
 have go:∀b oo,a.eval x=.pointer (some ⟨b,oo,none⟩)->(execOp a.eval o).run P w=.ok (.value (.pointer (some ⟨b,oo+f.offset,none⟩))) w:=fun b oo h=>by
  simp only[execOp,ho,h,Instr.fieldAt,Sem.run_bind,run_underlying hs,Result.andThen_ok,hf,Instr.sureAddr,Sem.run_pure,fieldPlace,run_sizeOf hm,Nat.add_eq_zero_iff,Nat.one_ne_zero,and_false,if_false,Addr.add]
  split
  ·rename_i h0;simp[h0]
  ·rfl
 unfold Ew at hv
 split at hv
 ·rename_i kI i' oo hb
  simp at hv;subst hv
  rw[hb]at hr
  obtain⟨B,h,hB,hk⟩:=iO hr
  refine⟨_,go _ _ h,?_⟩
  rw[Nat.add_assoc]
  exact .ptr _ _ _ _ hB hk
 ·rename_i cs hb
  simp at hv;subst hv
  rw[hb]at hr
  obtain⟨b,oo,vs,h,h1,h2,h3,h4⟩:=kT hr
  refine⟨_,go _ _ h,.eO _ _ (.dj _ _ _ (fun j=>vs (f.offset+j)) h1 (fun a ha=>h2 a (List.mem_of_mem_drop ha)) (fun j hj=>?_) (fun j a ha=>h4 _ _ (by simpa using ha)))⟩
  rw[Nat.add_assoc]
  exact h3 _ (by simp at hj;omega)
 ·simp at hv
theorem Mn {x:Operand} {x':O} {s:TypeId} {i n:Nat} {ag:Bool} {fs:Array Field} {f:Field} (E:cj P w D ι env a) (ho:o.op=.field s x i) (hs:P.underlying s=some (.struct fs)) (hf:fs[i]? =some f) (um:nF P f.type=some ag) (hm:dW P f.type=some n) (hx:cO P x=some x')
  (hv:bP ag f.offset n (cL env x')=some v):nV P a o w D ι v:=by
 have hr:=di E hx
 unfold bP at hv
 split at hv
 ·rename_i cs hb
  split at hv
  ·rename_i hl
   rw[hb]at hr
   obtain⟨vs,g,h,n1,fl,f1,r1⟩:=il hr
   unfold part at hv
   cases ag with
   |true=>
    simp only[if_true]at hv
    split at hv
    ·simp at hv;subst hv
     refine⟨.agg (vs.extract f.offset (f.offset+n)),?_,.agg _ _ (fun j=>g (f.offset+j)) (by simp[n1];omega) (fun a ha=>fl a (List.mem_of_mem_drop (List.mem_of_mem_take ha))) (fun j hj=>?_) (fun j a ha=>?_)⟩
     ·simp only[execOp,ho,h,Instr.field,Sem.run_bind,run_underlying hs,Result.andThen_ok,hf,asAgg,Sem.run_pure,pa um hm]
     ·simp at hj
      rw[Array.getElem?_extract,if_pos (by omega)];exact f1 _ (by omega)
     ·rw[List.getElem?_take]at ha
      split at ha
      ·exact r1 _ _ (by simpa using ha)
      ·simp at ha
    ·simp at hv
   |false=>
    simp only[Bool.false_eq_true,if_false]at hv
    have nJ:cs[f.offset]? =some v:=by simpa[List.head?_drop]using hv
    have dP:=(List.getElem?_eq_some_iff.1 nJ).1
    exact⟨g f.offset,by simp only[execOp,ho,h,Instr.field,Sem.run_bind,run_underlying hs,Result.andThen_ok,hf,asAgg,Sem.run_pure,l9 um (f1 _ dP)],r1 _ _ nJ⟩
  ·simp at hv
 ·simp at hv
theorem RS {left:Bool} {x y:Operand} {x' y':O} {t yt:TypeId} (E:cj P w D ι env a) (ho:o.op=.binOp (if left then .shl else .shr) t x y yt) (hx:cO P x=some x') (hy:cO P y=some y') (hv:gT left (cL env x') (cL env y')=some v):nV P a o w D ι v:=by
 unfold gT at hv
 split at hv
 ·rename_i k n k' m hb sG
  split at hv
  ·simp at hv
  ·rename_i hm
   simp at hv;subst hv
   have h1:=dn (hb▸di E hx)
   have h2:=dn (sG▸di E hy)
   refine⟨_,?_,.eO _ _ (.int _ _)⟩
   simp only[execOp,ho,h1,h2]
   cases left<;>simp only[Bool.false_eq_true,if_false,if_true,eqGuard,Bool.not_true,Bool.not_false,binOp,Op.shift,hm,Sem.run_bind,Sem.run_pure,Result.andThen_ok]<;>rfl
 ·simp at hv
end
end Go.Proofs.YtgoelphibofcmaaGreat.V

namespace Go.Proofs.YtgoelphibofcmaaGreat.V
open Go.RowKit
variable {P:Program} {w w':World} {D D':Nat->Prop} {ι ι':Names}
theorem jZ (b o j:Nat):(⟨b,o,none⟩:Addr).add j=⟨b,o+j,none⟩:=by unfold Addr.add;split<;>simp_all
section
variable {g:Rows} {hs:Nat} {env:Env} {a:Act} {o:Oper} {id:Id} {v:AV}
theorem ko {t:TypeId} {ag:Bool} {n b oo:Nat} {cs:List AV} {v:AV} {f:Nat->Value} (um:nF P t=some ag) (hn:dW P t=some n) (hp:part ag n cs=some v) (fl:∀a∈cs,a.cell=true)
  (hc:∀j,j<cs.length->w.cell? ⟨b,oo+j,none⟩=some (f j)) (hr:∀j a,cs[j]? =some a->dd P w D ι a (f j)):∃u,(loadVar t ⟨b,oo,none⟩).run P w=.ok u w/\dd P w D ι v u:=by
 unfold part at hp
 cases ag with
 |true=>
  simp only[if_true]at hp
  split at hp
  ·rename_i hl
   simp at hp;subst hp
   refine⟨.agg ((List.range n).map f).toArray,?_,.agg _ _ f (by simp;omega) (fun a ha=>fl a (List.mem_of_mem_take ha)) (fun j hj=>?_) (fun j a ha=>?_)⟩
   ·simp only[loadVar,Sem.run_bind,sV um,Result.andThen_ok,if_true,run_sizeOf hn,Sem.run_pure]
    rw[run_loadCells w _ n f (fun j hj=>by rw[jZ];exact hc j (by omega))]
    rfl
   ·simp at hj
    have:j<n:=by omega
    simp[this]
   ·rw[List.getElem?_take]at ha
    split at ha
    ·exact hr _ _ ha
    ·simp at ha
  ·simp at hp
 |false=>
  simp only[Bool.false_eq_true,if_false]at hp
  cases cs with
  |nil=>simp at hp
  |cons c r=>
   simp at hp;subst hp
   refine⟨f 0,?_,hr 0 _ rfl⟩
   simp only[loadVar,Sem.run_bind,sV um,Result.andThen_ok,Bool.false_eq_true,if_false]
   have:=hc 0 (by simp)
   simp at this
   rw[run_load,this]
theorem JD {S:gm P hs D ι g w} {i:Nat} {cs:List AV} (h:rowAt g id i=some cs) (hk:∀B,ι id=some B->B.k=none):∃B r,g id=some r/\ι id=some B/\kD P w D ι B r/\r.rows[i]? =some cs/\(∀a∈cs,a.cell=true)/\∃f:Nat->Value,∀j,j<cs.length->w.cell? ⟨B.b,i*B.sz+j,none⟩=some (f j)/\∀a,cs[j]? =some a->dd P w D ι a (f j):=by
 unfold rowAt at h
 simp only[Option.bind_eq_some_iff]at h
 obtain⟨r,hr,hi⟩:=h
 obtain⟨B,hB,R,_,_⟩:=S.row id r hr
 replace R:=R.row (hk B hB)
 refine⟨B,r,hr,hB,R,hi,R.flat cs (List.mem_of_getElem? hi),fun j=>(w.cell? ⟨B.b,i*B.sz+j,none⟩).getD undef,fun j hj=>?_⟩
 obtain⟨u,hu,xg⟩:=R.at_ i j cs _ hi (List.getElem?_eq_getElem hj)
 rw[R.sz,hu]
 refine⟨by simp only[hu,Option.getD_some],fun a ha=>?_⟩
 rw[List.getElem?_eq_getElem hj]at ha
 injection ha with ha
 subst ha
 simpa only[hu,Option.getD_some]using xg
theorem Pf {x:Operand} {x':O} {t:TypeId} {ag:Bool} {n:Nat} (S:gm P hs D ι g w) (E:cj P w D ι env a) (ho:o.op=.load t x) (um:nF P t=some ag) (hn:dW P t=some n) (hx:cO P x=some x') (hv:ld g ag n (cL env x')=some v):nV P a o w D ι v:=by
 have hr:=di E hx
 have go:∀b oo u,a.eval x=.pointer (some ⟨b,oo,none⟩)->(loadVar t ⟨b,oo,none⟩).run P w=.ok u w->(execOp a.eval o).run P w=.ok (.value u) w:=fun b oo u h h2=>by
  simp only[execOp,ho,h,Instr.loadAt,Instr.sureAddr,Sem.run_bind,Sem.run_pure,Result.andThen_ok,h2]
 unfold ld at hv
 split at hv
 ·rename_i kI i' oo hb
  rw[hb]at hr
  obtain⟨B,h,hB,hk⟩:=iO hr
  simp only[Option.bind_eq_some_iff]at hv
  obtain⟨cs,dt,hp⟩:=hv
  obtain⟨B',r,Ht,dC,R,hi,fl,f,hf⟩:=JD (S:=S) dt (fun B2 h2=>by rw[hB]at h2;injection h2 with h2;subst h2;exact hk)
  rw[hB]at dC;injection dC with dC;subst dC
  obtain⟨u,h1,h2⟩:=ko (w:=w) (b:=B.b) (oo:=i'*B.sz+oo) (f:=fun j=>f (oo+j)) um hn hp (fun a ha=>fl a (List.mem_of_mem_drop ha)) (fun j hj=>by
   rw[Nat.add_assoc];exact(hf _ (by simp at hj;omega)).1) (fun j a ha=>by
   simp at ha;exact(hf _ ((List.getElem?_eq_some_iff.1 ha).1)).2 _ ha)
  exact⟨u,go _ _ _ h h1,h2⟩
 ·rename_i cs hb
  rw[hb]at hr
  obtain⟨b,oo,vs,h,h1,h2,h3,h4⟩:=kT hr
  obtain⟨u,k1,k2⟩:=ko (w:=w) (b:=b) (oo:=oo) (f:=vs) um hn hv h2 h3 (fun j a ha=>.eO _ _ (h4 j a ha))
  exact⟨u,go _ _ _ h k1,k2⟩
 ·simp at hv
theorem RJ {x:Operand} {x':O} (E:cj P w D ι env a) (ho:o.op=.nilCheck x) (hx:cO P x=some x') (hv:ef (cL env x')=some v):nV P a o w D ι v:=by
 have hr:=di E hx
 unfold ef at hv
 split at hv
 ·rename_i kI i' oo hb
  simp at hv;subst hv
  rw[hb]at hr
  obtain⟨B,h,hB,hk⟩:=iO hr
  exact⟨_,by simp only[execOp,ho,h];rfl,.ptr _ _ _ _ hB hk⟩
 ·rename_i cs hb
  simp at hv;subst hv
  rw[hb]at hr
  obtain⟨b,oo,vs,h,_⟩:=kT hr
  exact⟨_,by simp only[execOp,ho,h];rfl,h▸hr⟩
 ·simp at hv
theorem Mo {x i:Operand} {x' i':O} {t e:TypeId} {m:Nat} (S:gm P hs D ι g w) (E:cj P w D ι env a) (ho:o.op=.indexAddr t x i) (ht:P.underlying t=some (.slice e)) (hm:dW P e=some (m+1)) (hx:cO P x=some x') (hi:cO P i=some i')
  (hv:bQ g (m+1) (cL env x') (cL env i')=some v):nV P a o w D ι v:=by
 have hr:=di E hx
 have Dx:=di E hi
 have go:∀b oo n c k (q:Int),a.eval x=.slice (some ⟨b,oo,none⟩) n c->a.eval i=.int k q->0<=q->q<n->(execOp a.eval o).run P w=.ok (.value (.pointer (some ⟨b,oo+q.toNat*(m+1),none⟩))) w:=fun b oo n c k q h h2 h3 h4=>by
  simp only[execOp,ho,h,h2,Instr.indexAt,asIntOf,Sem.run_bind,Sem.run_pure,run_underlying ht,Result.andThen_ok,h3,h4,and_self,if_true,run_sizeOf hm,jZ]
 unfold bQ at hv
 split at hv
 ·rename_i rows k q hb sG
  split at hv
  ·rename_i hq
   simp only[Option.bind_eq_some_iff]at hv
   obtain⟨cs,dt,hv⟩:=hv
   split at hv
   ·rename_i hlen
    simp at hv;subst hv
    rw[hb]at hr;rw[sG]at Dx
    have dP:=(List.getElem?_eq_some_iff.1 dt).1
    obtain⟨A,c,h,h1,h2,h3⟩:=wj hr
    rcases h3 with h3|⟨b,oo,sz,vs,rfl,hD,hl,fl,hc,hi⟩
    ·subst h3;simp at dt
    have fb:sz=m+1:=by rw[<-hlen,hl cs (List.mem_of_getElem? dt)]
    refine⟨_,go b oo _ _ k q h (dn Dx) hq (by omega),.eO _ _ (.dj cs b _ (vs q.toNat) hD (fl cs (List.mem_of_getElem? dt)) (fun j hj=>?_) (fun j a ha=>hi _ _ _ _ dt ha))⟩
    have:=hc q.toNat j dP (by rw[<-hl cs (List.mem_of_getElem? dt)];exact hj)
    rw[fb]at this
    rw[Nat.add_assoc];exact this
   ·simp at hv
  ·simp at hv
 ·rename_i kI off len k q hb sG
  split at hv
  ·rename_i hq
   simp only[Option.bind_eq_some_iff]at hv
   obtain⟨r,Ht,hv⟩:=hv
   split at hv
   ·rename_i xZ
    simp at hv;subst hv
    rw[hb]at hr;rw[sG]at Dx
    obtain⟨oo,cap,B,h,hB,h1,h2,h3,h4,hk⟩:=iN hr
    obtain⟨B',dC,R,_,_⟩:=S.row _ _ Ht
    rw[hB]at dC;injection dC with dC;subst dC
    replace R:=R.row hk
    have fb:B.sz=m+1:=R.sz.trans xZ
    refine⟨_,go _ _ _ _ k q h (dn Dx) hq.1 hq.2,?_⟩
    have Cv:oo=off*B.sz:=by rcases h2 with h2|h2<;>omega
    have:oo+q.toNat*(m+1)=(off+q.toNat)*B.sz+0:=by rw[Cv,<-fb,Nat.add_mul];rfl
    rw[this]
    exact .ptr _ _ _ _ hB hk
   ·simp at hv
  ·simp at hv
 ·simp at hv
theorem Pa {x i:Operand} {x' i':O} {t e:TypeId} {m len:Nat} (E:cj P w D ι env a) (ho:o.op=.indexAddr t x i) (ht:P.underlying t=some (.array len e)) (hm:dW P e=some (m+1)) (hx:cO P x=some x') (hi:cO P i=some i')
  (hv:cR len (m+1) (cL env x') (cL env i')=some v):nV P a o w D ι v:=by
 have hr:=di E hx
 have Dx:=di E hi
 have go:∀b oo k (q:Int),a.eval x=.pointer (some ⟨b,oo,none⟩)->a.eval i=.int k q->0<=q->q<len->(execOp a.eval o).run P w=.ok (.value (.pointer (some ⟨b,oo+q.toNat*(m+1),none⟩))) w:=fun b oo k q h h2 h3 h4=>by
  simp only[execOp,ho,h,h2,Instr.indexAt,asIntOf,Sem.run_bind,Sem.run_pure,run_underlying ht,Instr.sureAddr,Result.andThen_ok,h3,h4,and_self,if_true,run_sizeOf hm,jZ]
 unfold cR at hv
 split at hv
 ·rename_i kI r oo k q hb sG
  split at hv
  ·rename_i hq
   simp at hv;subst hv
   rw[hb]at hr;rw[sG]at Dx
   obtain⟨B,h,hB,hk⟩:=iO hr
   refine⟨_,go _ _ k q h (dn Dx) hq.1 hq.2,?_⟩
   rw[Nat.add_assoc]
   exact .ptr _ _ _ _ hB hk
  ·simp at hv
 ·rename_i cs k q hb sG
  split at hv
  ·rename_i hq
   simp at hv;subst hv
   rw[hb]at hr;rw[sG]at Dx
   obtain⟨b,oo,vs,h,h1,h2,h3,h4⟩:=kT hr
   refine⟨_,go _ _ k q h (dn Dx) hq.1 hq.2,.eO _ _ (.dj _ _ _ (fun j=>vs (q.toNat*(m+1)+j)) h1 (fun a ha=>h2 a (List.mem_of_mem_drop ha)) (fun j hj=>?_) (fun j a ha=>h4 _ _ (by simpa using ha)))⟩
   rw[Nat.add_assoc]
   exact h3 _ (by simp at hj;omega)
  ·simp at hv
 ·simp at hv
theorem Pc {x i:Operand} {x' i':O} {t:TypeId} (E:cj P w D ι env a) (ho:o.op=.index t x i) (ht:P.underlying t=some .string) (hx:cO P x=some x') (hi:cO P i=some i')
  (hv:cV (cL env x') (cL env i')=some v):nV P a o w D ι v:=by
 have hr:=di E hx
 have Dx:=di E hi
 unfold cV at hv
 split at hv
 ·rename_i s k q hb sG
  split at hv
  ·rename_i hq
   simp only[Option.map_eq_some_iff]at hv
   obtain⟨c,hc,rfl⟩:=hv
   rw[hb]at hr;rw[sG]at Dx
   refine⟨_,?_,.eO _ _ (.int _ _)⟩
   simp only[execOp,ho,fx hr,dn Dx,Instr.index,asIntOf,Sem.run_bind,Sem.run_pure,run_underlying ht,Result.andThen_ok,hq,if_true,hc]
  ·simp at hv
 ·simp at hv
theorem Pb {x i:Operand} {x' i':O} {t e:TypeId} {ag:Bool} {len n:Nat} (E:cj P w D ι env a) (ho:o.op=.index t x i) (ht:P.underlying t=some (.array len e)) (um:nF P e=some ag) (hn:dW P e=some n) (hx:cO P x=some x') (hi:cO P i=some i')
  (hv:cU ag len n (cL env x') (cL env i')=some v):nV P a o w D ι v:=by
 have hr:=di E hx
 have Dx:=di E hi
 unfold cU at hv
 split at hv
 ·rename_i cs k q hb sG
  split at hv
  ·rename_i hq
   rw[hb]at hr;rw[sG]at Dx
   obtain⟨vs,f,h,n1,fl,f1,r1⟩:=il hr
   have go:∀u,(Go.part e vs (q.toNat*n)).run P w=.ok u w->(execOp a.eval o).run P w=.ok (.value u) w:=fun u hu=>by
    simp only[execOp,ho,h,dn Dx,Instr.index,asIntOf,Sem.run_bind,Sem.run_pure,run_underlying ht,Result.andThen_ok,hq,and_self,if_true,run_sizeOf hn,hu]
   unfold part at hv
   cases ag with
   |true=>
    simp only[if_true]at hv
    split at hv
    ·rename_i hl
     simp at hv;subst hv
     simp only[List.length_drop]at hl
     by_cases PJ:n=0
     ·subst PJ
      refine⟨_,go _ (pa um hn),.agg _ _ (fun _=>undef) (by simp) (fun a ha=>by simp at ha) (fun j hj=>by simp at hj) (fun j a ha=>by simp at ha)⟩
     refine⟨_,go _ (pa um hn),.agg _ _ (fun j=>f (q.toNat*n+j)) (by simp[n1];omega) (fun a ha=>fl a (List.mem_of_mem_drop (List.mem_of_mem_take ha))) (fun j hj=>?_) (fun j a ha=>?_)⟩
     ·simp at hj
      rw[Array.getElem?_extract,if_pos (by omega)];exact f1 _ (by omega)
     ·rw[List.getElem?_take]at ha
      split at ha
      ·exact r1 _ _ (by simpa using ha)
      ·simp at ha
    ·simp at hv
   |false=>
    simp only[Bool.false_eq_true,if_false]at hv
    have nJ:cs[q.toNat*n]? =some v:=by simpa[List.head?_drop]using hv
    have dP:=(List.getElem?_eq_some_iff.1 nJ).1
    exact⟨_,go _ (l9 um (f1 _ dP)),r1 _ _ nJ⟩
  ·simp at hv
 ·simp at hv
theorem Hp {x:Operand} {x':O} {i:Nat} (E:cj P w D ι env a) (ho:o.op=.extract x i) (hx:cO P x=some x') (hv:aP i (cL env x')=some v):nV P a o w D ι v:=by
 have hr:=di E hx
 unfold aP at hv
 split at hv
 ·rename_i vs hb
  rw[hb]at hr
  obtain⟨us,f,h,h1,h2,h3⟩:=uv hr
  have dP:=(List.getElem?_eq_some_iff.1 hv).1
  exact⟨_,by simp only[execOp,ho,h,Instr.extract,h2 _ dP];rfl,h3 _ _ hv⟩
 ·simp at hv
theorem RN {x:Operand} {x':O} {t:TypeId} {e:TypeId} {n:Nat} (E:cj P w D ι env a) (ho:o.op=.call {callee:=.builtin .len,args:= #[x],argTypes:= #[t]}) (ht:P.underlying t=some (.slice e)) (hx:cO P x=some x') (hv:eh (cL env x')=some n):nV P a o w D ι (.int .i64 n):=by
 have hr:=di E hx
 have go:∀A c,a.eval x=.slice A n c->(execOp a.eval o).run P w=.ok (.value (.int .i64 n)) w:=fun A c h=>by
  simp only[execOp,ho,resolve,Sem.run_bind,Sem.run_pure,Result.andThen_ok,invoke,builtin,Array.map,h]
  simp[Builtin.len_,run_underlying ht,goInt,h]
 refine⟨.int .i64 n,?_,.eO _ _ (.int _ _)⟩
 unfold eh at hv
 split at hv<;>simp at hv<;>subst hv<;>rename_i hb<;>rw[hb]at hr
 ·exact go _ _ (iM hr)
 ·obtain⟨A,c,h,_⟩:=wj hr;exact go _ _ h
 ·obtain⟨oo,cap,B,h,_⟩:=iN hr;exact go _ _ h
theorem Pe {x:Operand} {x':O} {t:TypeId} (E:cj P w D ι env a) (ho:o.op=.call {callee:=.builtin .len,args:= #[x],argTypes:= #[t]}) (ht:P.underlying t=some .string) (hx:cO P x=some x') (hv:cX (cL env x')=some v):nV P a o w D ι v:=by
 have hr:=di E hx
 unfold cX at hv
 split at hv
 ·rename_i s hb
  simp at hv;subst hv
  rw[hb]at hr
  have h:=fx hr
  refine⟨_,?_,.eO _ _ (.int _ _)⟩
  simp only[execOp,ho,resolve,Sem.run_bind,Sem.run_pure,Result.andThen_ok,invoke,builtin,Array.map,h]
  simp[Builtin.len_,run_underlying ht,goInt,h]
 ·simp at hv
theorem mZ {isS:Bool} {len cap h l:Nat} {lo hi:Option Operand} {MV qM:Option O} (E:cj P w D ι env a) (jT:q9 P lo=some MV) (Cy:q9 P hi=some qM) (hh:dO len (qM.map (cL env))=some h) (hl:dR h (MV.map (cL env))=some l) (hc:len<=cap):
  (Instr.sliceBounds isS len cap (lo.map a.eval) (hi.map a.eval) none).run P w=.ok (l,h,cap) w/\l<=h/\h<=len:=by
 have bound:∀(x:Operand) (y:O) (k:IntKind) (n:Int) (m:Nat) (c:BoundsCode),cO P x=some y->cL env y=.int k n->0<=n->n<=m->(Instr.sliceBound (a.eval x) m c).run P w=.ok n.toNat w:=fun x y k n m c hx hy h0 h1=>by
  have hr:=di E hx
  rw[hy]at hr
  simp only[Instr.sliceBound,dn hr,asIntOf,Sem.run_bind,Sem.run_pure,Result.andThen_ok,h0,h1,and_self,if_true]
 have H:h<=len/\((hi=none/\h=len)∨∃x,hi=some x/\∀c,(Instr.sliceBound (a.eval x) cap c).run P w=.ok h w):=by
  cases hi with
  |none=>
   simp[q9]at Cy;subst Cy
   simp[dO]at hh;subst hh
   exact⟨Nat.le_refl _,.inl ⟨rfl,rfl⟩⟩
  |some x=>
   simp only[q9,Option.map_eq_some_iff]at Cy
   obtain⟨y,hy,rfl⟩:=Cy
   simp only[Option.map_some,dO]at hh
   split at hh
   ·rename_i e;cases e
   ·rename_i k n e
    injection e with e
    split at hh
    ·rename_i hn
     simp at hh;subst hh
     exact⟨by omega,.inr ⟨x,rfl,fun c=>bound x y k n _ _ hy e hn.1 (by omega)⟩⟩
    ·simp at hh
   ·simp at hh
 have L:l<=h/\((lo=none/\l=0)∨∃x,lo=some x/\∀c,(Instr.sliceBound (a.eval x) h c).run P w=.ok l w):=by
  cases lo with
  |none=>
   simp[q9]at jT;subst jT
   simp[dR]at hl;subst hl
   exact⟨Nat.zero_le _,.inl ⟨rfl,rfl⟩⟩
  |some x=>
   simp only[q9,Option.map_eq_some_iff]at jT
   obtain⟨y,hy,rfl⟩:=jT
   simp only[Option.map_some,dR]at hl
   split at hl
   ·rename_i e;cases e
   ·rename_i k n e
    injection e with e
    split at hl
    ·rename_i hn
     simp at hl;subst hl
     exact⟨by omega,.inr ⟨x,rfl,fun c=>bound x y k n h _ hy e hn.1 hn.2⟩⟩
    ·simp at hl
   ·simp at hl
 refine⟨?_,L.1,H.1⟩
 unfold Instr.sliceBounds
 rcases H.2 with⟨rfl,rfl⟩|⟨x,rfl,hx⟩<;>rcases L.2 with⟨rfl,rfl⟩|⟨y,rfl,hy⟩<;>
  simp only[Option.map_none,Option.map_some,Sem.run_bind,Sem.run_pure,Result.andThen_ok, *]
theorem Mp {x:Operand} {x':O} {lo hi:Option Operand} {MV qM:Option O} {t e:TypeId} {m:Nat} (S:gm P hs D ι g w) (E:cj P w D ι env a) (ho:o.op=.slice t x lo hi none) (ht:P.underlying t=some (.slice e)) (hm:dW P e=some m) (hx:cO P x=some x') (jT:q9 P lo=some MV) (Cy:q9 P hi=some qM)
  (hv:bR g m (cL env x') (MV.map (cL env)) (qM.map (cL env))=some v):nV P a o w D ι v:=by
 have hr:=di E hx
 have go:∀A len cap l h,a.eval x=.slice A len cap->(Instr.sliceBounds true len cap (lo.map a.eval) (hi.map a.eval) none).run P w=.ok (l,h,cap) w->(execOp a.eval o).run P w=.ok (.value (.slice (if cap=l then A else A.map (·.add (l*m))) (h-l) (cap-l))) w:=fun A len cap l h h1 h2=>by
  simp only[execOp,ho,h1,Instr.sliceAt,Instr.slice,Sem.run_bind,Sem.run_pure,run_underlying ht,Result.andThen_ok,Option.map_none,h2,run_sizeOf hm]
 unfold bR at hv
 split at hv
 ·rename_i hb
  rw[hb]at hr
  simp only[Option.bind_eq_some_iff,Option.map_eq_some_iff]at hv
  obtain⟨h,hh,l,hl,rfl⟩:=hv
  obtain⟨q,q1,q2⟩:=mZ (w:=w) (isS:=true) (cap:=0) E jT Cy hh hl (Nat.le_refl _)
  have h0:h=0:=by omega
  have l0:l=0:=by omega
  subst h0;subst l0
  refine⟨_,go _ _ _ _ _ (iM hr) q,?_⟩
  simp;exact .eO _ _ .cr
 ·rename_i rows hb
  rw[hb]at hr
  simp only[Option.bind_eq_some_iff,Option.map_eq_some_iff]at hv
  obtain⟨h,hh,l,hl,hv⟩:=hv
  split at hv
  ·rename_i dL
   simp at hv;subst hv
   obtain⟨A,c,he,c1,c2,h3⟩:=wj hr
   obtain⟨q,q1,q2⟩:=mZ (w:=w) (isS:=true) (cap:=c) E jT Cy hh hl c1
   refine⟨_,go _ _ _ _ _ he q,.eO _ _ ?_⟩
   have hlen:((rows.drop l).take (h-l)).length=h-l:=by simp;omega
   by_cases hz:h-l=0
   ·have:(rows.drop l).take (h-l)=[]:=by rw[hz];simp
    rw[this,hz]
    exact .Am _ _ (by omega)
   ·rcases h3 with h3|⟨b,oo,sz,vs,rfl,hD,Kl,fl,hc,hi⟩
    ·subst h3;simp at q2;omega
    rw[if_neg (by omega)]
    simp only[Option.map_some,jZ]
    have Bf:sz=m:=by
     have dP:l<rows.length:=by omega
     have:=dL rows[l] (List.getElem_mem dP)
     rw[<-this,Kl _ (List.getElem_mem dP)]
    subst Bf
    refine .sl _ b _ _ _ sz (fun i j=>vs (l+i) j) hlen (by omega) (by omega) hD (fun cs dt=>Kl cs (List.mem_of_mem_drop (List.mem_of_mem_take dt))) (fun cs dt=>fl cs (List.mem_of_mem_drop (List.mem_of_mem_take dt))) (fun i j hi hj=>?_) (fun i j cs a dt ha=>?_)
    ·rw[<-hc (l+i) j (by omega) hj,Nat.add_mul]
     congr 2;omega
    ·rw[List.getElem?_take]at dt
     split at dt
     ·exact hi _ _ _ _ (by simpa using dt) ha
     ·simp at dt
  ·simp at hv
 ·rename_i kI off len hb
  rw[hb]at hr
  simp only[Option.bind_eq_some_iff,Option.map_eq_some_iff]at hv
  obtain⟨r,Ht,h,hh,l,hl,hv⟩:=hv
  split at hv
  ·rename_i xZ
   simp at hv;subst hv
   obtain⟨oo,cap,B,he,hB,h1,h2,h3,h4,hk⟩:=iN hr
   obtain⟨B',dC,R,_,_⟩:=S.row _ _ Ht
   rw[hB]at dC;injection dC with dC;subst dC
   replace R:=R.row hk
   have fb:B.sz=m:=R.sz.trans xZ
   obtain⟨q,q1,q2⟩:=mZ (w:=w) (isS:=true) (cap:=cap) E jT Cy hh hl h1
   refine⟨_,go _ _ _ _ _ he q,?_⟩
   have e1:(off+l+(cap-l))*B.sz<=B.C:=by rw[show off+l+(cap-l)=off+cap by omega];exact h3
   by_cases mK:cap=l
   ·rw[if_pos mK]
    exact .own _ _ _ _ _ B hB hk (by omega) (.inl (by omega)) e1 (by omega)
   ·rw[if_neg mK]
    simp only[Option.map_some,jZ]
    have Cv:oo=off*B.sz:=by rcases h2 with h2|h2<;>omega
    exact .own _ _ _ _ _ B hB hk (by omega) (.inr (by rw[Cv,fb,Nat.add_mul])) e1 (by omega)
  ·simp at hv
 ·simp at hv
theorem Ka {x:Operand} {x':O} {lo hi:Option Operand} {MV qM:Option O} {t:TypeId} (E:cj P w D ι env a) (ho:o.op=.slice t x lo hi none) (ht:P.underlying t=some .string) (hx:cO P x=some x') (jT:q9 P lo=some MV) (Cy:q9 P hi=some qM)
  (hv:aX (cL env x') (MV.map (cL env)) (qM.map (cL env))=some v):nV P a o w D ι v:=by
 have hr:=di E hx
 unfold aX at hv
 split at hv
 ·rename_i s hb
  rw[hb]at hr
  simp only[Option.bind_eq_some_iff,Option.map_eq_some_iff]at hv
  obtain⟨h,hh,l,hl,rfl⟩:=hv
  obtain⟨q,_,_⟩:=mZ (w:=w) (isS:=false) E jT Cy hh hl (Nat.le_refl _)
  refine⟨_,?_,.eO _ _ (.str _)⟩
  simp only[execOp,ho,fx hr,Instr.sliceAt,Instr.slice,Sem.run_bind,Sem.run_pure,run_underlying ht,Result.andThen_ok,Option.map_none,Option.isSome_none,Bool.false_eq_true,if_false,q]
 ·simp at hv
theorem D4 {xs:List Operand} {ys:List O} (E:cj P w D ι env a) (h:xs.mapM (cO P)=some ys):(xs.map a.eval).length=ys.length/\∀j y,ys[j]? =some y->dd P w D ι (cL env y) ((xs.map a.eval).getD j undef):=by
 induction xs generalizing ys with
 |nil=>simp at h;subst h;simp
 |cons x r ih=>
  simp only[List.mapM_cons,Option.bind_eq_bind,Option.bind_eq_some_iff]at h
  obtain⟨c,hc,pQ,dt,h⟩:=h
  simp at h;subst h
  obtain⟨h1,h2⟩:=ih dt
  refine⟨by simpa using h1,fun j d hd=>?_⟩
  cases j with
  |zero=>simp at hd ⊢;subst hd;exact di E hc
  |succ j=>simp at hd ⊢;simpa using h2 j d hd
theorem Ph {f:Nat} {first cH:Array Operand} {AI:List O} (E:cj P w D ι env a) (ho:o.op=.makeFunc (.func f) first cH) (hf:first= #[]) (hc:fG P f=true) (hx:cH.toList.mapM (cO P)=some AI):nV P a o w D ι (.fn f (AI.map (cL env))):=by
 subst hf
 obtain⟨h1,h2⟩:=D4 E hx
 refine⟨.func (.func f) #[] (cH.map a.eval),by simp only[execOp,ho,Instr.makeFunc,Sem.run_bind,Sem.run_pure,Result.andThen_ok];simp,.fn _ _ _ (fun j=>(cH.toList.map a.eval).getD j undef) hc (by simpa using h1) (fun j hj=>?_) (fun j x PU=>?_)⟩
 ·simp at hj h1
  have:j<cH.size:=by omega
  simp[this]
 ·simp only[List.getElem?_map,Option.map_eq_some_iff]at PU
  obtain⟨y,hy,rfl⟩:=PU
  exact h2 j y hy
theorem Pj {f:Nat} {first cH:Array Operand} {AI:List O} (E:cj P w D ι env a) (ho:o.op=.makeFunc (.func f) first cH) (hf:cH= #[]) (hc:fG P f=true) (hx:first.toList.mapM (cO P)=some AI):nV P a o w D ι (.tA f (AI.map (cL env))):=by
 subst hf
 obtain⟨h1,h2⟩:=D4 E hx
 refine⟨.func (.func f) (first.map a.eval) #[],by simp only[execOp,ho,Instr.makeFunc,Sem.run_bind,Sem.run_pure,Result.andThen_ok];simp,.tA _ _ _ (fun j=>(first.toList.map a.eval).getD j undef) hc (by simpa using h1) (fun j hj=>?_) (fun j x PU=>?_)⟩
 ·simp at hj h1
  have:j<first.size:=by omega
  simp[this]
 ·simp only[List.getElem?_map,Option.map_eq_some_iff]at PU
  obtain⟨y,hy,rfl⟩:=PU
  exact h2 j y hy
end
end Go.Proofs.YtgoelphibofcmaaGreat.V

namespace Go.Proofs.YtgoelphibofcmaaGreat.V
open Go.RowKit
variable {P:Program} {w w':World} {D D':Nat->Prop} {ι ι':Names}
def Mk (P:Program) (a:Act) (o:Oper) (w:World) (D:Nat->Prop) (ι:Names) (id:Id) (v:AV) (r:Row):Prop:=
 ∃u cells T,(execOp a.eval o).run P w=.ok (.value u) (w.alloc (.cells cells T))/\r.w=true/\r.rows.length*r.sz<=cells.size/\(∀cs∈r.rows,cs.length=r.sz)/\(∀cs∈r.rows,∀a∈cs,a.cell=true)/\
  (∀i j cs a,r.rows[i]? =some cs->cs[j]? =some a->∃x,cells[i*r.sz+j]? =some x/\dd P w D ι a x)/\∀ι':Names,ι' id=some ⟨w.heap.size,r.sz,cells.size,none⟩->dd P w D ι' v u
section
variable {g:Rows} {hs:Nat} {env:Env} {a:Act} {o:Oper} {id:Id} {v:AV}
theorem kL {vs:List Value} {cs:List K} (h:vs.mapM Gt=some cs):fe P w D ι (cs.map K.av) vs.toArray:=by
 obtain⟨h1,h2⟩:=rM h
 refine⟨by simp[h1],fun j a ha=>?_⟩
 simp only[List.getElem?_map,Option.map_eq_some_iff]at ha
 obtain⟨c,hc,rfl⟩:=ha
 exact⟨c.val,by simpa using h2 j c hc,wh c⟩
theorem jM {t:TypeId} {z:List K} (h:jz P t=some z):∃i v,P.info? t=some i/\i.zero=some v/\v.cells.size=i.size/\v.cells.toList.mapM Gt=some z/\z.length=i.size:=by
 unfold jz at h
 split at h
 ·rename_i i hi
  split at h
  ·rename_i v hv
   split at h
   ·rename_i hs
    exact⟨i,v,hi,hv,hs,h,by rw[(rM h).1];simpa using hs⟩
   ·simp at h
  ·simp at h
 ·simp at h
theorem Fo {cs:List AV} {cells:Array Value} (h:fe P w D ι cs cells):∀i j c a,[cs][i]? =some c->c[j]? =some a->∃x,cells[i*cs.length+j]? =some x/\dd P w D ι a x:=by
 intro i j c a hi hj
 cases i with
 |zero=>simp at hi;subst hi;simpa using h.2 j a hj
 |succ i=>simp at hi
theorem Rp {t:TypeId} {z:List K} (ho:o.op=.alloc t) (hz:jz P t=some z):Mk P a o w D ι id (.ptr id 0 0) ⟨true,z.length,[z.map K.av]⟩:=by
 obtain⟨i,v,hi,hv,hs,hm,hl⟩:=jM hz
 have hk:=kL (P:=P) (w:=w) (D:=D) (ι:=ι) hm
 refine⟨.pointer (some ⟨w.heap.size,0,none⟩),v.cells,t,?_,rfl,?_,?_,?_,?_,?_⟩
 ·simp only[execOp,ho,Instr.alloc,zeroValue,typeInfo,Sem.run_bind]
  simp[hi,hv,newVar,newRow]
 ·simp[hl,hs]
 ·intro cs dt;simp at dt;subst dt;simp
 ·intro cs dt x hx;simp at dt;subst dt
  obtain⟨c,_,rfl⟩:=List.mem_map.1 hx;exact c.mz
 ·have:=Fo hk;simpa using this
 ·intro ι' hι
  have:=dd.ptr (P:=P) (w:=w) (D:=D) (ι:=ι') id 0 0 _ hι rfl
  simpa using this
theorem qH {x:AV} {u:Value} (h:dd P w D ι x u) (hc:x.cells.all AV.cell=true):fe P w D ι x.cells u.cells:=by
 obtain⟨h1,f,h2,h3⟩:=h.cells hc
 exact⟨h1,fun j a ha=>⟨f j,h2 j (List.getElem?_eq_some_iff.1 ha).1,h3 j a ha⟩⟩
theorem Rn {t:TypeId} {x:Operand} {x':O} {cs:List AV} (E:cj P w D ι env a) (ho:o.op=.box t x) (hx:cO P x=some x') (hb:cN (cL env x')=some cs):Mk P a o w D ι id (.ptr id 0 0) ⟨true,cs.length,[cs]⟩:=by
 have hr:=di E hx
 unfold cN at hb
 split at hb
 ·rename_i dL
  simp at hb;subst hb
  have hk:=qH hr dL
  refine⟨.pointer (some ⟨w.heap.size,0,none⟩),(a.eval x).cells,t,?_,rfl,?_,?_,?_,?_,?_⟩
  ·simp only[execOp,ho,Instr.box,Sem.run_bind]
   simp[newVar,newRow]
  ·simp[hk.1]
  ·intro cs dt;simp at dt;subst dt;rfl
  ·intro cs dt y hy;simp at dt;subst dt
   exact List.all_eq_true.1 dL y hy
  ·exact Fo hk
  ·intro ι' hι
   have:=dd.ptr (P:=P) (w:=w) (D:=D) (ι:=ι') id 0 0 _ hι rfl
   simpa using this
 ·simp at hb
theorem foldl_set:∀(vs:List Value) (n off:Nat) (cells:Array Value),off+n+vs.length<=cells.size->((vs.zipIdx n).foldl (fun cs (x:Value×Nat)=>cs.setIfInBounds (off+x.2) x.1) cells).size=cells.size/\
  ∀k,((vs.zipIdx n).foldl (fun cs (x:Value×Nat)=>cs.setIfInBounds (off+x.2) x.1) cells)[k]? =if off+n<=k/\k<off+n+vs.length then vs[k-(off+n)]? else cells[k]?
 |[],n,off,cells,_=>⟨rfl,fun k=>by simp;intro h1 h2;omega⟩
 |v::r,n,off,cells,h=>by
  simp only[List.length_cons]at h
  obtain⟨h1,h2⟩:=foldl_set r (n+1) off (cells.setIfInBounds (off+n) v) (by simp;omega)
  simp only[List.zipIdx_cons,List.foldl_cons]
  refine⟨by rw[h1];simp,fun k=>?_⟩
  rw[h2 k]
  simp only[List.length_cons]
  by_cases hk:k=off+n
  ·subst hk
   rw[if_neg (by omega),if_pos (by omega)]
   simp[show off+n<cells.size by omega]
  ·by_cases sJ:off+n<=k/\k<off+n+(r.length+1)
   ·rw[if_pos (by omega),if_pos sJ]
    have:k-(off+n)=(k-(off+(n+1)))+1:=by omega
    rw[this,List.getElem?_cons_succ]
   ·rw[if_neg (by omega),if_neg sJ,Array.getElem?_setIfInBounds_ne (by omega)]
theorem uY (place:Nat->Option (Nat×Nat)):∀(ps:List (Nat×Value)) (qs:List (Nat×Nat×AV)) (cells:Array Value) (cs res:List AV),fe P w D ι cs cells->(∀a∈cs,a.cell=true)->ps.length=qs.length->
  (∀(k:Nat) i u o' n x,ps[k]? =some (i,u)->qs[k]? =some (o',n,x)->place i=some (o',n)/\dd P w D ι x u)->cE cs qs=some res->∃jg,Instr.fill place cells ps=some jg/\fe P w D ι res jg/\(∀a∈res,a.cell=true)/\res.length=cs.length:=by
 intro ps
 induction ps with
 |nil=>
  intro qs cells cs res hR hf hl _ hv
  cases qs with
  |nil=>simp[cE]at hv;subst hv;exact⟨cells,rfl,hR,hf,rfl⟩
  |cons q r=>simp at hl
 |cons p ps ih=>
  intro qs cells cs res hR hf hl hp hv
  cases qs with
  |nil=>simp at hl
  |cons q qs=>
   obtain⟨i,u⟩:=p
   obtain⟨oo,n,x⟩:=q
   obtain⟨ml,hr⟩:=hp 0 i u oo n x rfl rfl
   unfold cE at hv
   split at hv
   ·rename_i hc
    obtain⟨c1,c2,c3⟩:=hc
    have hk:=qH hr c3
    have UB:u.cells.size=n:=by rw[hk.1,c1]
    have dt:cells.size=cs.length:=hR.1
    unfold Instr.fill
    simp only[ml]
    rw[if_neg (by rw[UB,dt];simp;omega)]
    obtain⟨s1,s2⟩:=foldl_set u.cells.toList 0 oo cells (by simp;omega)
    have e0:(u.cells.zipIdx.foldl (fun cs (x:Value×Nat)=>cs.setIfInBounds (oo+x.2) x.1) cells)=(u.cells.toList.zipIdx 0).foldl (fun cs (x:Value×Nat)=>cs.setIfInBounds (oo+x.2) x.1) cells:=by
     rw[<-Array.foldl_toList];simp
    have tV:=ih qs (u.cells.zipIdx.foldl (fun cs (x:Value×Nat)=>cs.setIfInBounds (oo+x.2) x.1) cells) (cs.take oo++x.cells++cs.drop (oo+n)) res ?_ ?_ (by simpa using hl) (fun k i u o' n x h1 h2=>hp (k+1) i u o' n x (by simpa using h1) (by simpa using h2)) hv
    ·obtain⟨jg,h1,h2,h3,h4⟩:=tV
     refine⟨jg,h1,h2,h3,?_⟩
     rw[h4];simp;omega
    ·rw[e0]
     refine⟨by rw[s1,dt];simp;omega,fun j a ha=>?_⟩
     rw[s2 j]
     simp only[Nat.add_zero,Array.length_toList]
     by_cases hj:oo<=j/\j<oo+u.cells.size
     ·rw[if_pos hj]
      rw[List.append_assoc,List.getElem?_append_right (by simp;omega),List.getElem?_append_left (by simp;omega)]at ha
      simp only[List.length_take]at ha
      rw[show min oo cs.length=oo by omega]at ha
      simpa using hk.2 _ _ ha
     ·rw[if_neg hj]
      by_cases N9:j<oo
      ·rw[List.append_assoc,List.getElem?_append_left (by simp;omega),List.getElem?_take,if_pos N9]at ha
       exact hR.2 _ _ ha
      ·rw[List.getElem?_append_right (by simp;omega)]at ha
       simp only[List.length_append,List.length_take,List.getElem?_drop]at ha
       rw[show oo+n+(j-(min oo cs.length+x.cells.length))=j by omega]at ha
       exact hR.2 _ _ ha
    ·intro b hb
     rcases List.mem_append.1 hb with hb|hb
     ·rcases List.mem_append.1 hb with hb|hb
      ·exact hf b (List.mem_of_mem_take hb)
      ·exact List.all_eq_true.1 c3 b hb
     ·exact hf b (List.mem_of_mem_drop hb)
   ·simp at hv
theorem xc {fs:List Field} (h:∀f∈fs,(P.info? f.type).isSome=true):∃zG,fs.mapM (fun f=>(P.info? f.type).map fun i=>(f.offset,i.size))=some zG/\∀(i:Nat) (f:Field) (n:Nat),fs[i]? =some f->dW P f.type=some n->zG[i]? =some (f.offset,n):=by
 induction fs with
 |nil=>exact⟨[],rfl,fun i f n h=>by simp at h⟩
 |cons f r ih=>
  obtain⟨q,h1,h2⟩:=ih (fun x hx=>h x (List.mem_cons_of_mem _ hx))
  obtain⟨i,hi⟩:=Option.isSome_iff_exists.1 (h f (by simp))
  refine⟨(f.offset,i.size)::q,by simp[hi,h1],fun k x n hk hn=>?_⟩
  cases k with
  |zero=>simp at hk;subst hk;simp[dW,hi]at hn;subst hn;rfl
  |succ k=>simp at hk ⊢;exact h2 k x n hk hn
theorem qb {ps:List (Nat×Operand)} {l:List (Nat×O)} (E:cj P w D ι env a) (h:ps.mapM (fun(x:Nat×Operand)=>(cO P x.2).map (x.1,·))=some l):l.length=ps.length/\∀(k i:Nat) (y:O),l[k]? =some (i,y)->∃x,ps[k]? =some (i,x)/\cO P x=some y:=by
 induction ps generalizing l with
 |nil=>simp at h;subst h;simp
 |cons p r ih=>
  simp only[List.mapM_cons,Option.bind_eq_bind,Option.bind_eq_some_iff]at h
  obtain⟨c,hc,pQ,dt,h⟩:=h
  simp at h;subst h
  obtain⟨h1,h2⟩:=ih dt
  simp only[Option.map_eq_some_iff]at hc
  obtain⟨y,hy,rfl⟩:=hc
  refine⟨by simp[h1],fun k i z hk=>?_⟩
  cases k with
  |zero=>simp at hk;obtain⟨rfl,rfl⟩:=hk;exact⟨p.2,rfl,hy⟩
  |succ k=>simp at hk ⊢;exact h2 k i z hk
theorem CW {fs:Array Field} {l:List (Nat×O)} {q:List (Nat×Nat×O)} (h:sq P fs l=some q):q.length=l.length/\∀(k oo n:Nat) (y:O),q[k]? =some (oo,n,y)->∃(i:Nat) (f:Field),l[k]? =some (i,y)/\fs[i]? =some f/\f.offset=oo/\dW P f.type=some n:=by
 induction l generalizing q with
 |nil=>simp[sq]at h;subst h;simp
 |cons p r ih=>
  obtain⟨i,x⟩:=p
  unfold sq at h
  split at h
  ·rename_i f hf
   split at h
   ·rename_i n hn
    simp only[Option.map_eq_some_iff]at h
    obtain⟨q',Lf,rfl⟩:=h
    obtain⟨h1,h2⟩:=ih Lf
    refine⟨by simp[h1],fun k oo m y hk=>?_⟩
    cases k with
    |zero=>simp at hk;obtain⟨rfl,rfl,rfl⟩:=hk;exact⟨i,f,rfl,hf,rfl,hn⟩
    |succ k=>simp only[List.getElem?_cons_succ]at hk ⊢;exact h2 k oo m y hk
   ·simp at h
  ·simp at h
theorem fe.agg {xs:List AV} {vs:Array Value} (h:fe P w D ι xs vs) (hf:∀a∈xs,a.cell=true):dd P w D ι (.agg xs) (.agg vs):=
 .agg xs vs (fun j=>vs.getD j undef) h.1 hf (fun j hj=>by
  have:j<vs.size:=by rw[h.1];exact hj
  simp[this]) (fun j a ha=>by
  obtain⟨u,h1,h2⟩:=h.2 j a ha
  simpa[Array.getD_eq_getD_getElem?,h1]using h2)
theorem Ml {t:TypeId} {ps:Array (Nat×Operand)} {fs:Array Field} {z:List K} {l:List (Nat×O)} {q:List (Nat×Nat×O)} {cs:List AV} (E:cj P w D ι env a) (ho:o.op=.build t ps) (ht:P.underlying t=some (.struct fs)) (hz:jz P t=some z) (hl:sw P ps=some l)
  (rz:∀f∈fs.toList,(P.info? f.type).isSome=true) (hq:sq P fs l=some q) (hv:cE (z.map K.av) (q.map fun(o,n,x)=>(o,n,cL env x))=some cs):nV P a o w D ι (.agg cs):=by
 obtain⟨it,zv,hi,pR,hs,hm,E9⟩:=jM hz
 obtain⟨zG,ml,Uu⟩:=xc rz
 have hk:=kL (P:=P) (w:=w) (D:=D) (ι:=ι) hm
 obtain⟨n1,r1⟩:=qb E hl
 obtain⟨n2,r2⟩:=CW hq
 obtain⟨jg,h1,h2,h3,_⟩:=uY (P:=P) (w:=w) (D:=D) (ι:=ι) (zG.toArray[·]?) (ps.toList.map fun(i,x)=>(i,a.eval x)) (q.map fun(o,n,x)=>(o,n,cL env x)) zv.cells _ cs (by simpa using hk)
  (fun b hb=>by obtain⟨c,_,rfl⟩:=List.mem_map.1 hb;exact c.mz) (by simp[n2,n1]) (fun k i u o' n x qN sJ=>by
   simp only[List.getElem?_map,Option.map_eq_some_iff]at qN sJ
   obtain⟨⟨i',x'⟩,hp,e1⟩:=qN
   obtain⟨⟨o2,n',y⟩,Lf,e2⟩:=sJ
   simp only[Prod.mk.injEq]at e1 e2
   obtain⟨rfl,rfl⟩:=e1
   obtain⟨rfl,rfl,rfl⟩:=e2
   obtain⟨i2,f,II,hf,rfl,hn⟩:=r2 _ _ _ _ Lf
   obtain⟨x2,Ak,hc⟩:=r1 _ _ _ II
   rw[hp]at Ak
   simp only[Option.some.injEq,Prod.mk.injEq]at Ak
   obtain⟨rfl,rfl⟩:=Ak
   exact⟨by simpa using Uu _ _ _ (by simpa using hf) hn,di E hc⟩) hv
 refine⟨.agg jg,?_,h2.agg h3⟩
 have hb:P.built t ((ps.map fun(i,x)=>(i,a.eval x)).toList)=some jg:=by
  unfold Program.built
  simp only[hi,ht,pR,ml]
  simpa using h1
 simp only[execOp,ho,Sem.run_bind,run_build w t _ _ hb,Result.andThen_ok,Sem.run_pure]
theorem J9 {t e:TypeId} {len n:Nat} {ps:Array (Nat×Operand)} {z:List K} {l:List (Nat×O)} {cs:List AV} (E:cj P w D ι env a) (ho:o.op=.build t ps) (ht:P.underlying t=some (.array len e)) (hz:jz P t=some z) (hl:sw P ps=some l) (hn:dW P e=some n)
  (hv:cE (z.map K.av) ((l.map fun(x:Nat×O)=>(x.1*n,n,x.2)).map fun(o,n,x)=>(o,n,cL env x))=some cs):nV P a o w D ι (.agg cs):=by
 obtain⟨it,zv,hi,pR,hs,hm,E9⟩:=jM hz
 have hk:=kL (P:=P) (w:=w) (D:=D) (ι:=ι) hm
 obtain⟨n1,r1⟩:=qb E hl
 obtain⟨ie,Gi,fb⟩:∃ie,P.info? e=some ie/\ie.size=n:=by simpa[dW]using hn
 obtain⟨jg,h1,h2,h3,_⟩:=uY (P:=P) (w:=w) (D:=D) (ι:=ι) (fun i=>some (i*ie.size,ie.size)) (ps.toList.map fun(i,x)=>(i,a.eval x)) ((l.map fun(x:Nat×O)=>(x.1*n,n,x.2)).map fun(o,n,x)=>(o,n,cL env x)) zv.cells _ cs (by simpa using hk)
  (fun b hb=>by obtain⟨c,_,rfl⟩:=List.mem_map.1 hb;exact c.mz) (by simp[n1]) (fun k i u o' n' x qN sJ=>by
   simp only[List.getElem?_map,Option.map_eq_some_iff]at qN sJ
   obtain⟨⟨i',x'⟩,hp,e1⟩:=qN
   obtain⟨⟨o2,n2,y⟩,⟨⟨i2,y2⟩,II,e3⟩,e2⟩:=sJ
   simp only[Prod.mk.injEq]at e1 e2 e3
   obtain⟨rfl,rfl⟩:=e1
   obtain⟨rfl,rfl,rfl⟩:=e2
   obtain⟨rfl,rfl,rfl⟩:=e3
   obtain⟨x2,Ak,hc⟩:=r1 _ _ _ II
   rw[hp]at Ak
   simp only[Option.some.injEq,Prod.mk.injEq]at Ak
   obtain⟨rfl,rfl⟩:=Ak
   exact⟨by rw[fb],di E hc⟩) hv
 refine⟨.agg jg,?_,h2.agg h3⟩
 have hb:P.built t ((ps.map fun(i,x)=>(i,a.eval x)).toList)=some jg:=by
  unfold Program.built
  simp only[hi,ht,pR,Gi]
  simpa using h1
 simp only[execOp,ho,Sem.run_bind,run_build w t _ _ hb,Result.andThen_ok,Sem.run_pure]
theorem uW:∀(vs:List AV) (sz i:Nat) (rs:List (List AV)) (cs:List AV),0<sz->cs.length=(i+vs.length)*sz->rowsOf sz vs=some rs->
  cE cs ((vs.zipIdx i).map fun(v,j)=>(j*sz,sz,v))=some (cs.take (i*sz)++rs.flatten)/\rs.length=vs.length/\(∀c∈rs,c.length=sz)/\∀c∈rs,∀x∈c,x.cell=true
 |[],sz,i,rs,cs,_,hl,h=>by
  simp[rowsOf]at h;subst h
  simp at hl
  simp[cE,List.take_of_length_le (show cs.length<=i*sz by omega)]
 |v::r,sz,i,rs,cs,fb,hl,h=>by
  simp only[rowsOf,Option.bind_eq_some_iff,Option.map_eq_some_iff]at h
  obtain⟨c,hc,rs',xZ,rfl⟩:=h
  unfold rowOf at hc
  split at hc
  ·rename_i zd
   simp at hc;subst hc
   obtain⟨pE,Dj⟩:=zd
   simp only[List.length_cons]at hl
   have hmul:(i+(r.length+1))*sz=i*sz+sz+r.length*sz:=by rw[Nat.add_mul,Nat.add_mul];omega
   have ih:=uW r sz (i+1) rs' (cs.take (i*sz)++v.cells++cs.drop (i*sz+sz)) fb (by
    simp[pE];rw[Nat.add_mul,Nat.add_mul];omega) xZ
   refine⟨?_,by simp[ih.2.1],?_,?_⟩
   ·simp only[List.zipIdx_cons,List.map_cons,cE]
    rw[if_pos ⟨pE,by omega,Dj⟩,ih.1]
    congr 1
    rw[List.flatten_cons,<-List.append_assoc]
    congr 1
    rw[Nat.add_mul,Nat.one_mul,List.take_append_of_le_length (by simp[pE];omega)]
    rw[List.take_of_length_le (by simp[pE];omega)]
   ·intro c' j6;rcases List.mem_cons.1 j6 with rfl|j6
    ·exact pE
    ·exact ih.2.2.1 c' j6
   ·intro c' j6;rcases List.mem_cons.1 j6 with rfl|j6
    ·exact List.all_eq_true.1 Dj
    ·exact ih.2.2.2 c' j6
  ·simp at hc
theorem flat_get {α:Type} {oh:List (List α)} {sz:Nat} (h:∀cs∈oh,cs.length=sz) {i j:Nat} {cs:List α} {a:α} (hi:oh[i]? =some cs) (hj:cs[j]? =some a):oh.flatten[i*sz+j]? =some a:=by
 induction oh generalizing i with
 |nil=>simp at hi
 |cons c r ih=>
  have hc:c.length=sz:=h c (by simp)
  cases i with
  |zero=>
   simp at hi;subst hi
   have dP:=(List.getElem?_eq_some_iff.1 hj).1
   rw[List.flatten_cons,List.getElem?_append_left (by omega)];simpa using hj
  |succ i=>
   rw[List.flatten_cons,List.getElem?_append_right (by rw[hc,Nat.succ_mul];omega)]
   have:(i+1)*sz+j-c.length=i*sz+j:=by rw[hc,Nat.succ_mul];omega
   rw[this]
   exact ih (fun cs dt=>h cs (List.mem_cons_of_mem _ dt)) (by simpa using hi)
theorem Iq {α:Type} {oh:List (List α)} {sz:Nat} (h:∀cs∈oh,cs.length=sz):oh.flatten.length=oh.length*sz:=by
 induction oh with
 |nil=>simp
 |cons c r ih=>
  rw[List.flatten_cons,List.length_append,h c (by simp),ih (fun cs dt=>h cs (List.mem_cons_of_mem _ dt)),List.length_cons,Nat.succ_mul];omega
theorem oW {zv:Value} {z:List K} {n:Nat} (hm:zv.cells.toList.mapM Gt=some z) (lf:0<z.length):∀k,k<n->∃c,z[k % z.length]? =some c/\((Array.range n).map (zv.cells[· % zv.cells.size]!))[k]? =some c.val:=by
 intro k hk
 obtain⟨h1,h2⟩:=rM hm
 have fb:zv.cells.size=z.length:=by simpa using h1.symm
 have dP:k % z.length<z.length:=Nat.mod_lt _ lf
 refine⟨z[k % z.length],List.getElem?_eq_getElem dP,?_⟩
 have h3:=h2 _ _ (List.getElem?_eq_getElem dP)
 simp only[Array.getElem?_toList]at h3
 have Be:k % z.length<zv.cells.size:=by rw[fb];exact dP
 rw[Array.getElem?_map,Array.getElem?_range,if_pos hk]
 simp only[Option.map_some]
 rw[fb,getElem!_pos zv.cells (k % z.length) Be]
 rw[Array.getElem?_eq_getElem Be]at h3
 exact h3
theorem Jc {t e:TypeId} {len sz:Nat} {ps:Array (Nat×Operand)} {z:List K} {l:List (Nat×O)} {rs:List (List AV)} (E:cj P w D ι env a) (ho:o.op=.buildSlice t len ps) (ht:P.underlying t=some (.slice e)) (fb:dW P e=some (sz+1)) (hz:jz P e=some z)
  (hl:sw P ps=some l) (Li:len*(sz+1)<=4096) (Q5:l.map (·.1)=List.range len) (hv:rowsOf (sz+1) (l.map fun x=>cL env x.2)=some rs):Mk P a o w D ι id (.own id 0 len) ⟨true,sz+1,rs⟩:=by
 obtain⟨it,zv,hi,pR,hs,hm,E9⟩:=jM hz
 have jt:it.size=sz+1:=by simpa[dW,hi]using fb
 obtain⟨n1,r1⟩:=qb E hl
 have K6:l.length=len:=by have:=congrArg List.length Q5;simpa using this
 by_cases h0:len=0
 ·subst h0
  have PH:l=[]:=List.length_eq_zero_iff.1 K6
  subst PH
  simp[rowsOf]at hv;subst hv
  have SB:ps= #[]:=by
   apply Array.ext';apply List.eq_nil_of_length_eq_zero;rw[<-n1];rfl
  subst SB
  refine⟨.slice (some ⟨w.heap.size,0,none⟩) 0 0, #[],e,?_,rfl,by simp,by simp,by simp,fun i j cs x hi=>by simp at hi,fun ι' hι=>?_⟩
  ·simp[execOp,ho,Instr.buildSlice,run_underlying ht,sizeOf,typeInfo,hi,Instr.fill,newRow,Array.range_zero']
  ·exact .own _ 0 0 0 0 _ hι rfl (Nat.le_refl _) (.inl rfl) (by simp) (by simp[maxLen])
 ·have wU:fe P w D ι ((List.range (len*(sz+1))).map fun k=>(z.getD (k % z.length) .cr).av) ((Array.range (len*(sz+1))).map (zv.cells[· % zv.cells.size]!)):=by
   refine⟨by simp,fun j x hx=>?_⟩
   simp only[List.getElem?_map,Option.map_eq_some_iff]at hx
   obtain⟨k,hk,rfl⟩:=hx
   have k8:=(List.getElem?_eq_some_iff.1 hk).1
   simp at k8
   rw[List.getElem?_range k8]at hk
   injection hk with hk
   subst hk
   obtain⟨c,hc,QG⟩:=oW hm (by rw[E9,jt];omega) j k8
   exact⟨c.val,QG,by rw[List.getD_eq_getElem?_getD,hc];exact wh c⟩
  obtain⟨f1,f2,f3,f4⟩:=uW (l.map fun x=>cL env x.2) (sz+1) 0 rs ((List.range (len*(sz+1))).map fun k=>(z.getD (k % z.length) .cr).av) (by omega) (by simp[K6]) hv
  obtain⟨jg,h1,h2,h3,h4⟩:=uY (P:=P) (w:=w) (D:=D) (ι:=ι) (fun i=>some (i*it.size,it.size)) (ps.toList.map fun(i,x)=>(i,a.eval x)) _ _ _ _ wU
   (fun b hb=>by obtain⟨c,_,rfl⟩:=List.mem_map.1 hb;exact K.mz _) (by simp[n1]) (fun k i u o' n x qN sJ=>by
   simp only[List.getElem?_map,Option.map_eq_some_iff]at qN sJ
   obtain⟨⟨i',x'⟩,hp,e1⟩:=qN
   obtain⟨⟨v2,j2⟩,Lf,e2⟩:=sJ
   simp only[Prod.mk.injEq]at e1 e2
   obtain⟨rfl,rfl⟩:=e1
   obtain⟨rfl,rfl,rfl⟩:=e2
   rw[List.getElem?_zipIdx]at Lf
   simp only[List.getElem?_map,Option.map_map,Option.map_eq_some_iff,Function.comp_apply,Prod.mk.injEq,Nat.zero_add]at Lf
   obtain⟨⟨i2,y⟩,II,rfl,rfl⟩:=Lf
   obtain⟨x2,Ak,hc⟩:=r1 _ _ _ II
   rw[hp]at Ak
   simp only[Option.some.injEq,Prod.mk.injEq]at Ak
   obtain⟨rfl,rfl⟩:=Ak
   have xT:(l.map (·.1))[k]? =some i':=by rw[List.getElem?_map,II];rfl
   have k8:=(List.getElem?_eq_some_iff.1 xT).1
   rw[Q5]at xT
   simp at k8
   rw[List.getElem?_range (by omega)]at xT
   injection xT with xT
   subst xT
   exact⟨by rw[jt],di E hc⟩) f1
  simp only[Nat.zero_mul,List.take_zero,List.nil_append,List.length_map]at h2 h3 h4 f2
  have dt:jg.size=len*(sz+1):=by rw[h2.1,h4];simp
  refine⟨.slice (some ⟨w.heap.size,0,none⟩) len len,jg,e,?_,rfl,?_,f3,f4,fun i j cs x qM hj=>h2.2 _ _ (flat_get f3 qM hj),fun ι' hι=>?_⟩
  ·have gr:=run_buildSlice (P:=P) w t e len (ps.map fun(i,x)=>(i,a.eval x)) jg it zv ht hi pR (by rw[jt];omega) (by rw[jt];exact Nat.mul_ne_zero h0 (by omega)) (by rw[<-jt]at h1;simpa using h1)
   simp only[execOp,ho,Sem.run_bind,gr,Result.andThen_ok,Sem.run_pure]
  ·dsimp only;rw[f2,K6,dt];exact Nat.le_refl _
  ·refine .own _ 0 len 0 len _ hι rfl (Nat.le_refl _) (.inr (by simp)) ?_ (by simp only[maxLen];have:=Nat.le_mul_of_pos_right len (show 0<sz+1 by omega);omega)
   dsimp only;rw[dt];simp
theorem GF {t e:TypeId} {it:TypeInfo} {m:Nat} {z:List K} {l c:Operand} {l' c':O} {n:Nat} {r:Row} (E:cj P w D ι env a) (ho:o.op=.makeSlice t l c) (ht:P.underlying t=some (.slice e)) (fb:dW P e=some (m+1)) (hz:jz P e=some z) (PE:P.info? e=some it) (hby:it.bytes<=32768)
  (hl:cO P l=some l') (hc:cO P c=some c') (hv:gS z (cL env l') (cL env c')=some (n,r)):Mk P a o w D ι id (.own id 0 n) r:=by
 obtain⟨it',zv,hi,pR,hs,hm,E9⟩:=jM hz
 rw[PE]at hi;injection hi with hi;subst hi
 have jt:it.size=m+1:=by simpa[dW,PE]using fb
 unfold gS at hv
 split at hv
 ·rename_i k1 ln k2 cn e1 e2
  split at hv
  ·rename_i hb
   obtain⟨b1,b2,b3⟩:=hb
   simp at hv
   obtain⟨rfl,rfl⟩:=hv
   have r1:=dn (e1▸di E hl)
   have r2:=dn (e2▸di E hc)
   unfold dE at b3
   have MD:(it.bytes:Int)*cn<=281474976710656:=by
    have h1:(it.bytes:Int)<=32768:=by omega
    have h2:(it.bytes:Int)*cn<=32768*16777216:=Int.mul_le_mul h1 (by omega) (by omega) (by omega)
    omega
   have gr:=run_make (P:=P) w t e it zv ht PE pR k1 k2 ln cn b1 b2 MD (by omega)
   have kb:∀k,k<cn.toNat*it.size->∃x,z[k % z.length]? =some x/\(madeCells zv.cells (cn.toNat*it.size))[k]? =some x.val:=fun k hk=>oW hm (by rw[E9,jt];omega) k hk
   refine⟨.slice (some ⟨w.heap.size,0,none⟩) ln.toNat cn.toNat,madeCells zv.cells (cn.toNat*it.size),e,by simp only[execOp,ho,r1,r2,Sem.run_bind,gr,Result.andThen_ok,Sem.run_pure],rfl,?_,?_,?_,?_,fun ι' hι=>?_⟩
   ·simp only[List.length_replicate,size_madeCells,E9]
    exact Nat.mul_le_mul_right _ (by omega)
   ·intro cs dt
    have:=List.eq_of_mem_replicate dt
    subst this;simp
   ·intro cs dt x hx
    have:=List.eq_of_mem_replicate dt
    subst this
    obtain⟨c,_,rfl⟩:=List.mem_map.1 hx;exact c.mz
   ·intro i j cs x qM hj
    have nz:=(List.getElem?_eq_some_iff.1 qM).1
    have:=List.eq_of_mem_replicate (List.mem_of_getElem? qM)
    subst this
    simp only[List.length_replicate]at nz
    simp only[List.getElem?_map,Option.map_eq_some_iff]at hj
    obtain⟨q,hq,rfl⟩:=hj
    have gG:=(List.getElem?_eq_some_iff.1 hq).1
    dsimp only
    obtain⟨x,hx,Ak⟩:=kb (i*z.length+j) (by
     rw[<-E9]
     calc i*z.length+j<i*z.length+z.length:=by omega
      _=(i+1)*z.length:=by rw[Nat.add_mul,Nat.one_mul]
      _<=cn.toNat*z.length:=Nat.mul_le_mul_right _ (by omega))
    rw[Nat.mul_comm i,Nat.mul_add_mod,Nat.mod_eq_of_lt gG,hq]at hx
    injection hx with hx;subst hx
    exact⟨_,by rw[Nat.mul_comm i]at Ak ⊢;exact Ak,wh q⟩
   ·refine .own _ 0 _ 0 _ _ hι rfl (by omega) (.inr (by simp)) ?_ (by simp only[maxLen];omega)
    dsimp only;rw[size_madeCells,E9];simp
  ·simp at hv
 ·simp at hv
end
end Go.Proofs.YtgoelphibofcmaaGreat.V

namespace Go.Proofs.YtgoelphibofcmaaGreat.V
open Go.RowKit
variable {P:Program} {w w':World} {D D':Nat->Prop} {ι ι':Names}
def ED (P:Program) (k:TypeId) (m:MK):Prop:=
 (∃s,m=⟨false,[s]⟩/\fj P k=some s)∨
 (∃fs ts,m=⟨true,ts⟩/\P.underlying k=some (.struct fs)/\eF P 4 0 fs.toList=some ts/\P.stoodInHeld k=false/\∀f∈fs.toList,(fj P f.type).isSome=true)
theorem qZ {t:TypeId} {m:MK} {z:K} (h:su P t=some (m,z)):∃k e i zv,P.underlying t=some (.map k e)/\P.info? e=some i/\i.zero=some zv/\Gt zv=some z/\ED P k m:=by
 unfold su at h
 split at h
 ·rename_i k e ht
  split at h
  ·rename_i zv s h1 h2 h3
   simp only[Option.map_eq_some_iff,Prod.mk.injEq]at h
   obtain⟨z',hz,rfl,rfl⟩:=h
   simp only[Option.bind_eq_some_iff]at h2
   obtain⟨i,hi,pR⟩:=h2
   exact⟨k,e,i,zv,ht,hi,pR,hz,.inl ⟨s,rfl,h3⟩⟩
  ·rename_i zv fs h1 h2 h3 h4
   split at h
   ·rename_i ts z' xh hz
    split at h
    ·rename_i hc
     simp only[Option.some.injEq,Prod.mk.injEq]at h
     obtain⟨rfl,rfl⟩:=h
     simp only[Option.bind_eq_some_iff]at h2
     obtain⟨i,hi,pR⟩:=h2
     simp only[Bool.not_eq_true',List.all_eq_true]at hc
     exact⟨k,e,i,zv,ht,hi,pR,hz,.inr ⟨fs,ts,rfl,h4,xh,hc.1,hc.2⟩⟩
    ·cases h
   ·cases h
  ·cases h
 ·cases h
theorem wq {t:TypeId} {s:TS} (ht:fj P t=some s) (em:Bool) (n:Nat) (v:Value):(Instr.checkKey em (n+1) t v).run P w=.ok () w:=by
 unfold Instr.checkKey
 cases s with
 |tB=>simp[run_underlying (pb ht)]
 |tS=>simp[run_underlying (pd ht)]
 |tI=>
  obtain⟨q,hq⟩:=pc ht
  simp[run_underlying hq]
theorem wu (em:Bool) (n:Nat) (vs:Array Value):∀(d:Nat) (fs:List Field) (off:Nat) (ts:List TS),eF P (d+1) off fs=some ts->(∀f∈fs,(fj P f.type).isSome=true)->off+ts.length<=vs.size->
  Sem.run P (forIn fs PUnit.unit fun f (_:PUnit)=>if f.name≠ "_" then do
    let x <-Go.part f.type vs f.offset
    Instr.checkKey em (n+1) f.type x
    pure (ForInStep.yield PUnit.unit)
   else pure (ForInStep.yield PUnit.unit)) w=Result.ok PUnit.unit w
 |d,[],off,ts,_,_,_=>by simp
 |d,f::r,off,ts,hf,hs,hl=>by
  rw[xL]at hf
  split at hf
  ·rename_i hcond
   obtain⟨ho,gU⟩:=hcond
   split at hf
   ·rename_i s PR
    split at hf
    ·rename_i um
     simp only[Option.map_eq_some_iff]at hf
     obtain⟨Ks,hr,rfl⟩:=hf
     simp only[List.length_cons]at hl
     have ih:=wu em n vs d r (off+1) Ks hr (fun f hf=>hs f (List.mem_cons_of_mem _ hf)) (by omega)
     have hu:vs[off]? =some vs[off]:=by simp
     simp only[List.forIn_cons,Sem.run_bind,if_pos gU,ho,l9 um hu,Result.andThen_ok,wq PR,Sem.run_pure]
     exact ih
    ·cases hf
   ·rename_i hn
    have:=hs f (by simp)
    rw[hn]at this;cases this
  ·cases hf
theorem Ea {k:TypeId} {m:MK} (hk:ED P k m) (em:Bool) (key:AV) (u:Value) (um:key.isAgg=m.ka) (hlen:key.cells.length=m.ks) (hr:dd P w D ι key u):(Instr.checkKey em 10000 k u).run P w=.ok () w:=by
 rcases hk with⟨s,rfl,hs⟩|⟨fs,ts,rfl,rz,xh,dH,dL⟩
 ·exact wq hs em 9999 u
 ·cases key<;>simp[AV.isAgg]at um
  rename_i cs
  obtain⟨vs,f,rfl,h1,_⟩:=il hr
  unfold Instr.checkKey
  simp only[Sem.run_bind,run_underlying rz,Result.andThen_ok]
  rw[<-Array.forIn_toList]
  have h:=wu (P:=P) (w:=w) em 9998 vs 3 fs.toList 0 ts xh dL (by simp[AV.cells,MK.ks]at hlen;omega)
  rw[h]
  rfl
theorem HT (a b:ByteArray):(a==b)=decide (a=b):=by
 by_cases h:a=b
 ·subst h;rw[decide_eq_true rfl]
  obtain⟨x⟩:=a
  show(x==x)=true
  simp
 ·rw[decide_eq_false h,Bool.eq_false_iff]
  intro hc
  obtain⟨x⟩:=a
  obtain⟨y⟩:=b
  exact h (by rw[show x=y by simpa using(show(x==y)=true from hc)])
theorem JE {t:TypeId} {s:TS} {x y:AV} {u v:Value} {b:Bool} {d:TypeDesc} (ht:fj P t=some s) (hd:P.underlying t=some d) (he:fU s x y=some b) (hx:dd P w D ι x u) (hy:dd P w D ι y v):Instr.sameNow d u v=some b:=by
 unfold fU at he
 split at he
 ·rename_i k n k' n'
  split at he
  ·rename_i hk
   subst hk
   simp at he;subst he
   obtain⟨q,hq⟩:=pc ht
   rw[hd]at hq;injection hq with hq;subst hq
   rw[dn hx,dn hy]
   simp[Instr.sameNow]
   rfl
  ·cases he
 ·simp at he;subst he
  have hq:=pb ht
  rw[hd]at hq;injection hq with hq;subst hq
  rw[e6 hx,e6 hy];rfl
 ·rename_i a c
  simp at he;subst he
  have hq:=pd ht
  rw[hd]at hq;injection hq with hq;subst hq
  rw[fx hx,fx hy]
  simp only[Instr.sameNow,HT]
 ·cases he
def Found (es:List MapEntry) (i:Nat) (r:Option Nat) (res:Option (Nat×Value)):Prop:=(r=none/\res=none)∨∃j e,r=some (i+j)/\es[j]? =some e/\res=some (i+j,e.val)
theorem u7 {e:MapEntry} {es:List MapEntry} {i:Nat} {r:Option Nat} {res:Option (Nat×Value)} (h:Found es (i+1) r res):Found (e::es) i r res:=by
 rcases h with h|⟨j,x,h1,h2,h3⟩
 ·exact .inl h
 ·exact .inr ⟨j+1,x,by rw[h1];congr 1;omega,by simpa using h2,by rw[h3];congr 2;omega⟩
theorem AU {t:TypeId} {s:TS} {d:TypeDesc} {x:AV} {u:Value} (ht:fj P t=some s) (hd:P.underlying t=some d) (hx:dd P w D ι x u):∀(rows:List (List AV)) (es:List MapEntry) (i:Nat) (r:Option Nat),es.length=rows.length->
  (∀(j:Nat) (cs:List AV),rows[j]? =some cs->∃(e:MapEntry) (kv:AV),es[j]? =some e/\cs.head? =some kv/\dd P w D ι kv e.key)->fQ ⟨false,[s]⟩ [x] rows i=some r->∃res,Instr.findNow d u es i=some res/\Found es i r res
 |[],[],i,r,_,_,h=>by
  simp[fQ]at h;subst h
  exact⟨none,rfl,.inl ⟨rfl,rfl⟩⟩
 |[],e::es,i,r,hl,_,h=>by simp at hl
 |cs::rows,[],i,r,hl,_,h=>by simp at hl
 |cs::rows,e::es,i,r,hl,hr,h=>by
  obtain⟨e',kv,ze,hk,gO⟩:=hr 0 cs rfl
  simp at ze;subst ze
  have dt:cs.take (MK.ks ⟨false,[s]⟩)=[kv]:=by
   cases cs with
   |nil=>simp at hk
   |cons a l=>simp at hk;subst hk;simp[MK.ks]
  unfold fQ at h
  rw[dt]at h
  cases hq:fU s x kv with
  |none=>simp[eY,hq]at h
  |some b=>
   have hs:=JE ht hd hq hx gO
   cases b with
   |true=>
    simp[eY,hq]at h;subst h
    exact⟨some (i,e.val),by simp[Instr.findNow,hs],.inr ⟨0,e,rfl,rfl,rfl⟩⟩
   |false=>
    simp[eY,hq]at h
    obtain⟨res,h1,h2⟩:=AU ht hd hx rows es (i+1) r (by simpa using hl) (fun j cs hj=>hr (j+1) cs (by simpa using hj)) h
    exact⟨res,by simp[Instr.findNow,hs,h1],u7 h2⟩
theorem pT {t:TypeId} {fs:Array Field} {ts:List TS} {xs ys:List AV} {vs us:Array Value} {b:Bool} (rz:P.underlying t=some (.struct fs)) (dH:P.stoodInHeld t=false) (xh:eF P 4 0 fs.toList=some ts) (hx:fe P w D ι xs vs) (hy:fe P w D ι ys us) (hv:eY ts xs ys=some b):(Op.equal t (.agg vs) (.agg us)).run P w=.ok b w:=by
 obtain⟨l1,l2⟩:=rm hv
 have q:=rS (w:=w) 4 fs.toList 0 ts xh 9998 (by omega) xs ys vs us b hx hy (by simpa[List.take_of_length_le,l1,l2]using hv)
 have ME:P.fieldsOf t=fs:=by simp[Program.fieldsOf,rz]
 unfold Op.equal
 rw[show Op.maxDepth=9999+1 from rfl,run_equalIn_struct w 9999 t _ _ (by rw[ME];exact rz) dH,ME,q]
theorem rQ {cs:List AV} {v:Value} (h:dd P w D ι (.agg cs) v):∃vs,v=.agg vs/\fe P w D ι cs vs:=by
 obtain⟨vs,f,rfl,n1,_,f1,r1⟩:=il h
 exact⟨vs,rfl,n1,fun j a ha=>⟨f j,f1 j (List.getElem?_eq_some_iff.1 ha).1,r1 j a ha⟩⟩
theorem AS {t:TypeId} {fs:Array Field} {ts:List TS} {xs:List AV} {vs:Array Value} (rz:P.underlying t=some (.struct fs)) (dH:P.stoodInHeld t=false) (xh:eF P 4 0 fs.toList=some ts) (hx:fe P w D ι xs vs):∀(rows:List (List AV)) (es:List MapEntry) (i:Nat) (r:Option Nat),es.length=rows.length->
  (∀(j:Nat) (cs:List AV),rows[j]? =some cs->∃e:MapEntry,es[j]? =some e/\dd P w D ι (.agg (cs.take ts.length)) e.key)->fQ ⟨true,ts⟩ xs rows i=some r->∃res,(Instr.findAsking t (.agg vs) es i).run P w=.ok res w/\Found es i r res
 |[],[],i,r,_,_,h=>by
  simp[fQ]at h;subst h
  exact⟨none,by simp[Instr.findAsking],.inl ⟨rfl,rfl⟩⟩
 |[],e::es,i,r,hl,_,h=>by simp at hl
 |cs::rows,[],i,r,hl,_,h=>by simp at hl
 |cs::rows,e::es,i,r,hl,hr,h=>by
  obtain⟨e',ze,gO⟩:=hr 0 cs rfl
  simp at ze;subst ze
  obtain⟨us,hk,hy⟩:=rQ gO
  unfold fQ at h
  simp only[MK.ks]at h
  split at h
  ·rename_i hq
   simp at h;subst h
   have q:=pT rz dH xh hx hy hq
   exact⟨some (i,e.val),by simp[Instr.findAsking,hk,q],.inr ⟨0,e,rfl,rfl,rfl⟩⟩
  ·rename_i hq
   have q:=pT rz dH xh hx hy hq
   obtain⟨res,h1,h2⟩:=AS rz dH xh hx rows es (i+1) r (by simpa using hl) (fun j cs hj=>hr (j+1) cs (by simpa using hj)) h
   exact⟨res,by simp[Instr.findAsking,hk,q,h1],u7 h2⟩
  ·cases h
theorem uS {a:AV} (h:a.isAgg=false):a.cells=[a]:=by cases a<;>simp_all [AV.isAgg,AV.cells]
theorem uZ {k:TypeId} {m:MK} {B:sk} {r:Row} (hk:ED P k m) {key:AV} {u:Value} (hr:dd P w D ι key u) {es:Array MapEntry} (fb:es.size=r.rows.length)
  (hM:∀(i:Nat) (cs:List AV),r.rows[i]? =some cs->∃(e:MapEntry) (kv vv:AV),es[i]? =some e/\part m.ka m.ks cs=some kv/\cs[m.ks]? =some vv/\dd P w D ι kv e.key/\dd P w D ι vv e.val) {fi:Option Nat} (h:fJ m key r.rows=some fi):
  (∀em,(Instr.checkKey em 10000 k u).run P w=.ok () w)/\∃res,(Instr.findKey k u es.toList).run P w=.ok res w/\Found es.toList 0 fi res:=by
 unfold fJ at h
 split at h
 ·rename_i hc
  obtain⟨c1,c2,c3⟩:=hc
  refine⟨fun em=>Ea hk em key u c1 c2 hr,?_⟩
  rcases hk with⟨s,rfl,hs⟩|⟨fs,ts,rfl,rz,xh,dH,dL⟩
  ·rw[uS c1]at h
   have hd:∃d,P.underlying k=some d:=by
    cases s with
    |tB=>exact⟨_,pb hs⟩
    |tS=>exact⟨_,pd hs⟩
    |tI=>obtain⟨q,hq⟩:=pc hs;exact⟨_,hq⟩
   obtain⟨d,hd⟩:=hd
   obtain⟨res,h1,h2⟩:=AU hs hd hr r.rows es.toList 0 fi (by simpa using fb) (fun j cs hj=>by
    obtain⟨e,kv,vv,q1,q2,_,q4,_⟩:=hM j cs hj
    exact⟨e,kv,by simpa using q1,by simpa[part]using q2,q4⟩) h
   exact⟨res,by simp[Instr.findKey,run_underlying hd,h1],h2⟩
  ·cases key<;>simp[AV.isAgg]at c1
   rename_i cs
   obtain⟨vs,rfl,hL⟩:=rQ hr
   obtain⟨res,h1,h2⟩:=AS rz dH xh hL r.rows es.toList 0 fi (by simpa using fb) (fun j cs hj=>by
    obtain⟨e,kv,vv,q1,q2,_,q4,_⟩:=hM j cs hj
    unfold part at q2
    simp only[if_true]at q2
    split at q2
    ·simp only[Option.some.injEq]at q2;subst q2
     exact⟨e,by simpa using q1,q4⟩
    ·cases q2) h
   exact⟨res,(run_findKey_eq w (by simp[rz]) _ _).trans h1,h2⟩
 ·cases h
section
variable {g:Rows} {hs:Nat} {env:Env} {a:Act} {o:Oper} {id:Id} {v:AV}
theorem zy {m:MK} {x:AV} {u:Value} {p:Id×Row} (S:gm P hs D ι g w) (hr:dd P w D ι x u) (h:dV g m x=some p):∃B,u=.map (some B.b)/\g p.1=some p.2/\ι p.1=some B/\B.k=some (.map m)/\Ms P w D ι B m p.2:=by
 unfold dV at h
 split at h
 ·rename_i i m'
  split at h
  ·rename_i hm
   subst hm
   simp only[Option.map_eq_some_iff]at h
   obtain⟨r,hg,rfl⟩:=h
   obtain⟨B,rfl,hB,hk⟩:=Fp hr
   obtain⟨B',dC,R,_⟩:=S.row i r hg
   rw[hB]at dC;injection dC with dC;subst dC
   exact⟨B,rfl,hg,hB,hk,(R.map _ hk).2⟩
  ·cases h
 ·cases h
theorem Pg {t:TypeId} {x k:Operand} {ok:Bool} {m:MK} {z:K} {x' k':O} {mr:Option Row} (S:gm P hs D ι g w) (E:cj P w D ι env a) (ho:o.op=.lookup t x k ok) (hc:su P t=some (m,z)) (hx:cO P x=some x') (hk:cO P k=some k')
  (hv:bD (.look m ok z) [cL env x',cL env k'] g id=some (v,mr)):mr=none/\nV P a o w D ι v:=by
 obtain⟨kt,e,i,zv,ht,hi,pR,Su,hK⟩:=qZ hc
 simp only[bD,Option.bind_eq_some_iff,Option.map_eq_some_iff,Prod.mk.injEq]at hv
 obtain⟨p,hp,fi,E3,y,hy,rfl,rfl⟩:=hv
 obtain⟨B,hu,hg,hB,uk,es,clock,hb,fb,hlen,hM⟩:=zy S (di E hx) hp
 obtain⟨Kg,res,hf,hF⟩:=uZ (B:=B) hK (di E hk) fb hM E3
 have key:∃val,(match res with|some (_,v)=>(v,true)|none=>(zv,false))=(val,fi.isSome)/\dd P w D ι y val:=by
  rcases hF with⟨rfl,rfl⟩|⟨j,en,rfl,he,rfl⟩
  ·simp only[ec,Option.some.injEq]at hy;subst hy
   refine⟨zv,rfl,?_⟩
   rw[zl Su];exact wh z
  ·simp only[ec,Option.bind_eq_some_iff,Nat.zero_add]at hy
   obtain⟨cs,dt,hy⟩:=hy
   obtain⟨e',kv,vv,q1,_,q3,_,q5⟩:=hM _ cs dt
   rw[hy]at q3;injection q3 with q3;subst q3
   have:e'=en:=by
    have h1:es.toList[j]? =some e':=by simpa using q1
    rw[he]at h1;injection h1 with h1;exact h1.symm
   subst this
   exact⟨_,rfl,q5⟩
 obtain⟨val,sK,lu⟩:=key
 have eZ:(getObj B.b).run P w=.ok (.map es clock) w:=MapKept.run_getObj_map hb
 have hz:(zeroValue e).run P w=.ok zv w:=by simp[zeroValue,typeInfo,hi,pR]
 refine⟨rfl,if ok then .tuple #[val,.bool fi.isSome]else val,?_,?_⟩
 ·simp only[execOp,ho,hu,Instr.lookup,Sem.run_bind,run_underlying ht,Result.andThen_ok,eZ,Sem.run_pure,Kg,hf]
  rcases hF with⟨rfl,rfl⟩|⟨j,en,rfl,he,rfl⟩
  ·simp only[Prod.mk.injEq]at sK
   simp[hz,sK.1]
  ·simp only[Prod.mk.injEq]at sK
   simp[sK.1]
 ·cases ok with
  |false=>exact lu
  |true=>
   refine .iF _ _ (fun j=>if j=0 then val else .bool fi.isSome) rfl (fun j hj=>?_) (fun j b hj=>?_)
   ·have:j=0∨j=1:=by simp at hj;omega
    rcases this with rfl|rfl<;>rfl
   ·match j,hj with
    |0,hj=>simp at hj;subst hj;exact lu
    |1,hj=>simp at hj;subst hj;exact .eO _ _ (.bool _)
    |j+2,hj=>simp at hj
theorem Pk {t:TypeId} {x:Operand} {m:MK} {z:K} {x':O} {mr:Option Row} (S:gm P hs D ι g w) (E:cj P w D ι env a) (ho:o.op=.call {callee:=.builtin .len,args:= #[x],argTypes:= #[t]}) (hc:su P t=some (m,z)) (hx:cO P x=some x')
  (hv:bD (.len m) [cL env x'] g id=some (v,mr)):mr=none/\nV P a o w D ι v:=by
 obtain⟨kt,e,i,zv,ht,hi,pR,Su,hK⟩:=qZ hc
 simp only[bD,Option.map_eq_some_iff,Prod.mk.injEq]at hv
 obtain⟨p,hp,rfl,rfl⟩:=hv
 obtain⟨B,hu,hg,hB,uk,es,clock,hb,fb,hlen,hM⟩:=zy S (di E hx) hp
 have eZ:(getObj B.b).run P w=.ok (.map es clock) w:=MapKept.run_getObj_map hb
 refine⟨rfl,.int .i64 (es.size:Int),?_,by rw[fb];exact .eO _ _ (.int _ _)⟩
 simp only[execOp,ho,resolve,Sem.run_bind,Sem.run_pure,Result.andThen_ok,invoke,builtin,Array.map,hu]
 simp[Builtin.len_,run_underlying ht,goInt,hu,eZ]
def MkM (P:Program) (a:Act) (o:Oper) (w:World) (id:Id) (v:AV) (r:Row):Prop:=
 ∃m,(execOp a.eval o).run P w=.ok (.value (.map (some w.heap.size))) (w.alloc (.map #[] 0))/\v=.map id m/\r=⟨true,m.lJ,[]⟩
theorem Ro {t:TypeId} {m:MK} (ho:o.op=.makeMap t none):MkM P a o w id (.map id m) ⟨true,m.lJ,[]⟩:=by
 refine⟨m,?_,rfl,rfl⟩
 simp[execOp,ho,Instr.makeMap,go_sem]
def MkC (P:Program) (a:Act) (o:Oper) (w:World) (id:Id) (v:AV) (r:Row):Prop:=
 ∃n,(execOp a.eval o).run P w=.ok (.value (.chan (some w.heap.size))) (w.alloc (.chan n #[] false 0 0 false))/\v=.rf id/\r=⟨true,qh+n,[]⟩
theorem OI {t e:TypeId} {x:Operand} {x':O} {dir:ChanDir} {i:TypeInfo} {n:Nat} (E:cj P w D ι env a) (ho:o.op=.makeChan t x) (ht:P.underlying t=some (.chan dir e)) (hi:P.info? e=some i) (hb:i.bytes<=32768) (hx:cO P x=some x') (hn:cY (cL env x')=some n):MkC P a o w id (.rf id) ⟨true,qh+n,[]⟩:=by
 refine⟨n,?_,rfl,rfl⟩
 have hr:=di E hx
 unfold cY at hn
 split at hn
 ·rename_i k m hm
  rw[hm]at hr
  split at hn
  ·rename_i hc
   simp only[Option.some.injEq]at hn
   subst hn
   have ML:((m.toNat:Nat):Int)=m:=by omega
   have dP:(i.bytes:Int)*(m.toNat:Nat)<=281474976710544:=by
    have h1:i.bytes*m.toNat<=32768*1048576:=Nat.mul_le_mul hb (by omega)
    have h2:((i.bytes*m.toNat:Nat):Int)<=281474976710544:=by omega
    rwa [Int.natCast_mul]at h2
   have h:=Conc.run_makeChan (P:=P) (w:=w) ht hi k m.toNat (by omega) dP
   rw[ML]at h
   simp only[execOp,ho,dn hr,Sem.run_bind,h,Result.andThen_ok,Sem.run_pure]
  ·cases hn
 ·cases hn
theorem yU {x:AV} {u:Value} {i:Id} {r:Row} (S:gm P hs D ι g w) (hr:dd P w D ι x u) (hx:x=.rf i) (hg:g i=some r):∃B c,u=.chan (some B.b)/\ι i=some B/\B.k=some (.chan c)/\r.sz=qh+c/\HC P w D ι B c r:=by
 subst hx
 obtain⟨B,c,rfl,hB,hk⟩:=L1 hr
 obtain⟨B',dC,R,_⟩:=S.row i r hg
 rw[hB]at dC;injection dC with dC;subst dC
 exact⟨B,c,rfl,hB,hk,R.chan c hk⟩
theorem Pd {t e:TypeId} {dir:ChanDir} {x:Operand} {x':O} (S:gm P hs D ι g w) (E:cj P w D ι env a) (ho:o.op=.call {callee:=.builtin .len,args:= #[x],argTypes:= #[t]}) (ht:P.underlying t=some (.chan dir e)) (hx:cO P x=some x') (hv:cW g (cL env x')=some v):nV P a o w D ι v:=by
 have hr:=di E hx
 unfold cW at hv
 split at hv
 ·rename_i i he
  simp only[Option.map_eq_some_iff]at hv
  obtain⟨r,hg,rfl⟩:=hv
  obtain⟨B,c,hu,hB,hk,fb,buf,s,q,hb,Kf,_⟩:=yU S hr he hg
  have eZ:(getObj B.b).run P w=.ok (.chan c buf false s q false) w:=by simp[getObj,Sem.run,hb]
  refine⟨.int .i64 (buf.size:Int),?_,by rw[Kf];exact .eO _ _ (.int _ _)⟩
  simp only[execOp,ho,resolve,Sem.run_bind,Sem.run_pure,Result.andThen_ok,invoke,builtin,Array.map,hu]
  simp[Builtin.len_,run_underlying ht,goInt,hu,eZ]
 ·cases hv
end
end Go.Proofs.YtgoelphibofcmaaGreat.V

namespace Go.Proofs.YtgoelphibofcmaaGreat.V
open Go.RowKit
variable {P:Program} {w w':World} {D D':Nat->Prop} {ι ι':Names}
def Kx (P:Program) (a:Act) (o:Oper) (w:World) (D:Nat->Prop) (ι:Names) (id:Id) (v:AV):Option Row->Prop
 |none=>nV P a o w D ι v
 |some r=>Mk P a o w D ι id v r∨MkM P a o w id v r∨MkC P a o w id v r
section
variable {g:Rows} {hs:Nat} {env:Env} {a:Act} {o:Oper} {id:Id} {v:AV}
theorem lj {x:Option AV} {mr:Option Row} (h:x.map (·,(none:Option Row))=some (v,mr)) (H:x=some v->nV P a o w D ι v):Kx P a o w D ι id v mr:=by
 cases x with
 |none=>simp at h
 |some y=>simp at h;obtain⟨rfl,rfl⟩:=h;exact H rfl
theorem Rv {neg:Bool} {t yt:TypeId} {x y:Operand} {vo:gn} {mr:Option Row} (ho:o.op=.binOp (if neg then .neq else .eql) t x y yt) (hc:sr P neg t x y=some vo) (hq:eP vo (cL env) g id=some (v,mr)) (E:cj P w D ι env a):Kx P a o w D ι id v mr:=by
 unfold sr at hc
 split at hc
 ·split at hc
  ·rename_i e ht
   simp only[Option.map_eq_some_iff]at hc
   obtain⟨x',hx,rfl⟩:=hc
   simp only[eP,ej,Bool.false_eq_true,if_false,Option.map_eq_some_iff,Prod.mk.injEq]at hq
   obtain⟨b,hb,rfl,rfl⟩:=hq
   exact O9 E ho ht hx hb
  ·simp at hc
 ·split at hc
  ·rename_i ht
   simp only[Option.map_eq_some_iff]at hc
   obtain⟨x',hx,rfl⟩:=hc
   simp only[eP,ej,if_true,Option.map_eq_some_iff,Prod.mk.injEq]at hq
   obtain⟨b,hb,rfl,rfl⟩:=hq
   exact O8 E ho ht hx hb
  ·simp at hc
 ·split at hc
  ·rename_i ht
   simp only[Option.map_eq_some_iff]at hc
   obtain⟨x',hx,rfl⟩:=hc
   simp only[eP,Option.map_eq_some_iff,Prod.mk.injEq]at hq
   obtain⟨b,hb,rfl,rfl⟩:=hq
   exact RL E ho ht hx hb
  ·simp at hc
 ·split at hc
  ·rename_i s hs
   simp only[Option.bind_eq_bind,Option.bind_eq_some_iff,Option.pure_def,Option.some.injEq]at hc
   obtain⟨x',hx,y',hy,rfl⟩:=hc
   simp only[eP,Option.map_eq_some_iff,Prod.mk.injEq]at hq
   obtain⟨b,hb,rfl,rfl⟩:=hq
   have Bk:fj P t=some s:=by
    unfold Ta at hs
    split at hs
    ·rename_i s' h;simp at hs;subst hs;exact h
    ·split at hs
     ·split at hs
      ·simp at hs
      ·simp at hs
     ·simp at hs
   exact RM E ho Bk hx hy hb
  ·rename_i ts hs
   simp only[Option.bind_eq_bind,Option.bind_eq_some_iff,Option.pure_def,Option.some.injEq]at hc
   obtain⟨x',hx,y',hy,rfl⟩:=hc
   simp only[eP]at hq
   split at hq
   ·rename_i xs ys h1 h2
    simp only[Option.map_eq_some_iff,Prod.mk.injEq]at hq
    obtain⟨b,hb,rfl,rfl⟩:=hq
    unfold Ta at hs
    split at hs
    ·simp at hs
    ·split at hs
     ·rename_i fs rz
      split at hs
      ·rename_i hg
       simp only[Option.map_eq_some_iff,SU.ag.injEq]at hs
       obtain⟨Ks,xh,rfl⟩:=hs
       simp only[Bool.and_eq_true,Bool.not_eq_true']at hg
       exact RK E ho rz hg.1 hg.2 xh hx hy h1 h2 hb
      ·simp at hs
     ·simp at hs
   ·simp at hq
  ·simp at hc
theorem OO {c:Call} {vo:gn} {mr:Option Row} (ho:o.op=.call c) (hc:nu P c=some vo) (hq:eP vo (cL env) g id=some (v,mr)) (S:gm P hs D ι g w) (E:cj P w D ι env a):Kx P a o w D ι id v mr:=by
 unfold nu at hc
 split at hc
 ·rename_i kf
  split at hc
  ·rename_i x t h1 h2
   have hce:c={callee:=.builtin .len,args:= #[x],argTypes:= #[t]}:=by
    obtain⟨a,b,c⟩:=c
    simp only at h1 h2 kf
    subst kf
    congr
    ·exact Array.ext' h1
    ·exact Array.ext' h2
   rw[hce]at ho
   split at hc
   ·rename_i e ht
    simp only[Option.map_eq_some_iff]at hc
    obtain⟨x',hx,rfl⟩:=hc
    simp only[eP,Option.map_eq_some_iff,Prod.mk.injEq]at hq
    obtain⟨n,hn,rfl,rfl⟩:=hq
    exact RN E ho ht hx hn
   ·rename_i ht
    simp only[Option.map_eq_some_iff]at hc
    obtain⟨x',hx,rfl⟩:=hc
    exact lj hq fun h=>Pe E ho ht hx h
   ·split at hc
    ·rename_i m z x' hm hx
     simp only[Option.some.injEq]at hc
     subst hc
     obtain⟨rfl,h⟩:=Pk (id:=id) S E ho hm hx hq
     exact h
    ·cases hc
   ·rename_i ht
    simp only[Option.map_eq_some_iff]at hc
    obtain⟨x',hx,rfl⟩:=hc
    exact lj hq fun h=>Pd S E ho ht hx h
   ·simp at hc
  ·simp at hc
 ·split at hc
  ·split at hc
   ·split at hc
    ·split at hc
     ·simp only[Option.bind_eq_bind,Option.bind_eq_some_iff,Option.pure_def,Option.some.injEq]at hc
      obtain⟨x',hx,y',hy,rfl⟩:=hc
      simp[eP]at hq
     ·simp at hc
    ·simp at hc
   ·simp at hc
  ·simp at hc
 ·split at hc
  ·split at hc
   ·split at hc
    ·simp only[Option.map_eq_some_iff]at hc
     obtain⟨x',hx,rfl⟩:=hc
     simp[eP]at hq
    ·simp at hc
   ·simp at hc
  ·simp at hc
 ·split at hc
  ·simp only[Option.map_eq_some_iff]at hc
   obtain⟨x',hx,rfl⟩:=hc
   simp[eP]at hq
  ·simp at hc
 ·simp only[Option.map_eq_some_iff]at hc
  obtain⟨x',hx,rfl⟩:=hc
  simp[eP]at hq
 ·split at hc
  ·split at hc
   ·simp only[Option.some.injEq]at hc
    subst hc
    simp[eP]at hq
   ·cases hc
  ·cases hc
 ·split at hc
  ·split at hc
   ·split at hc
    ·simp only[Option.bind_eq_bind,Option.bind_eq_some_iff,Option.pure_def,Option.some.injEq]at hc
     obtain⟨x',hx,y',hy,rfl⟩:=hc
     simp[eP]at hq
    ·simp at hc
   ·simp at hc
  ·simp at hc
 ·simp at hc
theorem yu {vo:gn} {mr:Option Row} (hc:qL P o.op=some vo) (hq:eP vo (cL env) g id=some (v,mr)) (S:gm P hs D ι g w) (E:cj P w D ι env a):Kx P a o w D ι id v mr:=by
 unfold qL at hc
 split at hc
 ·rename_i ho
  simp only[Option.map_eq_some_iff]at hc
  obtain⟨x',hx,rfl⟩:=hc
  simp[eP]at hq;obtain⟨rfl,rfl⟩:=hq
  exact M8 E (.inl ho) hx
 ·rename_i ho
  simp only[Option.map_eq_some_iff]at hc
  obtain⟨x',hx,rfl⟩:=hc
  simp[eP]at hq;obtain⟨rfl,rfl⟩:=hq
  exact M8 E (.inr ho) hx
 ·rename_i ho
  simp only[Option.bind_eq_bind,Option.bind_eq_some_iff,Option.pure_def,Option.some.injEq]at hc
  obtain⟨c',h1,x',h2,y',h3,rfl⟩:=hc
  exact lj hq fun h=>Pm E ho h1 h2 h3 h
 ·rename_i ho
  simp only[Option.map_eq_some_iff]at hc
  obtain⟨z,hz,rfl⟩:=hc
  simp only[eP,Option.some.injEq,Prod.mk.injEq]at hq
  obtain⟨rfl,rfl⟩:=hq
  exact .inl (Rp ho hz)
 ·rename_i ho
  simp only[Option.map_eq_some_iff]at hc
  obtain⟨x',hx,rfl⟩:=hc
  simp only[eP,Option.map_eq_some_iff,Prod.mk.injEq]at hq
  obtain⟨cs,dt,rfl,rfl⟩:=hq
  exact .inl (Rn E ho hx dt)
 ·rename_i ho
  simp only[Option.bind_eq_bind,Option.bind_eq_some_iff,Option.pure_def,Option.some.injEq]at hc
  obtain⟨ag,h1,n,h2,x',h3,rfl⟩:=hc
  exact lj hq fun h=>Pf S E ho h1 h2 h3 h
 ·rename_i ho
  simp only[Option.bind_eq_bind,Option.bind_eq_some_iff,Option.pure_def,Option.some.injEq]at hc
  obtain⟨n,h2,x',h3,y',h4,rfl⟩:=hc
  simp[eP]at hq
 ·rename_i ho
  simp only[Option.map_eq_some_iff]at hc
  obtain⟨x',hx,rfl⟩:=hc
  exact lj hq fun h=>RJ E ho hx h
 ·rename_i op t x y yt ho
  unfold uM at hc
  split at hc
  ·exact Rv (neg:=false) ho hc hq E
  ·exact Rv (neg:=true) ho hc hq E
  ·simp only[Option.bind_eq_bind,Option.bind_eq_some_iff,Option.pure_def,Option.some.injEq]at hc
   obtain⟨x',h3,y',h4,rfl⟩:=hc
   exact lj hq fun h=>RS (left:=true) E ho h3 h4 h
  ·simp only[Option.bind_eq_bind,Option.bind_eq_some_iff,Option.pure_def,Option.some.injEq]at hc
   obtain⟨x',h3,y',h4,rfl⟩:=hc
   exact lj hq fun h=>RS (left:=false) E ho h3 h4 h
  ·rename_i n1 n2 n3 n4
   split at hc
   ·simp only[Option.bind_eq_bind,Option.bind_eq_some_iff,Option.pure_def,Option.some.injEq]at hc
    obtain⟨x',h3,y',h4,rfl⟩:=hc
    exact lj hq fun h=>RI E ho n1 n2 h3 h4 h
   ·simp only[Option.bind_eq_bind,Option.bind_eq_some_iff,Option.pure_def,Option.some.injEq]at hc
    obtain⟨x',h3,y',h4,rfl⟩:=hc
    exact lj hq fun h=>O6 E ho n1 n2 h3 h4 h
   ·simp at hc
 ·rename_i ho
  simp only[Option.map_eq_some_iff]at hc
  obtain⟨x',hx,rfl⟩:=hc
  exact lj hq fun h=>RQ E ho hx h
 ·rename_i ho
  simp only[Option.map_eq_some_iff]at hc
  obtain⟨x',hx,rfl⟩:=hc
  exact lj hq fun h=>RP E ho hx h
 ·rename_i ho
  split at hc
  ·rename_i q k h1 h2
   simp only[Option.map_eq_some_iff]at hc
   obtain⟨x',hx,rfl⟩:=hc
   exact lj hq fun h=>O7 E ho h1 h2 hx h
  ·rename_i h1 h2
   simp only[Option.map_eq_some_iff]at hc
   obtain⟨x',hx,rfl⟩:=hc
   exact lj hq fun h=>by
    have hr:=di E hx
    unfold bV at h
    split at h
    ·rename_i s hb
     simp at h;subst h
     rw[hb]at hr
     exact⟨.string s,by simp only[execOp,ho,fx hr,convert,Sem.run_bind,run_underlying h1,run_underlying h2,Result.andThen_ok,Sem.run_pure],.eO _ _ (.str _)⟩
    ·simp at h
  ·simp at hc
 ·rename_i ho
  split at hc
  ·rename_i e ht
   simp only[Option.bind_eq_bind,Option.bind_eq_some_iff,Option.pure_def,Option.some.injEq]at hc
   obtain⟨n,h1,x',h2,lo,h3,hi,h4,rfl⟩:=hc
   exact lj hq fun h=>Mp S E ho ht h1 h2 h3 h4 h
  ·rename_i ht
   simp only[Option.bind_eq_bind,Option.bind_eq_some_iff,Option.pure_def,Option.some.injEq]at hc
   obtain⟨x',h2,lo,h3,hi,h4,rfl⟩:=hc
   exact lj hq fun h=>Ka E ho ht h2 h3 h4 h
  ·simp at hc
 ·rename_i ho
  split at hc
  ·rename_i fs rz
   split at hc
   ·rename_i f hf
    split at hc
    ·rename_i m hm
     simp only[Option.map_eq_some_iff]at hc
     obtain⟨x',hx,rfl⟩:=hc
     exact lj hq fun h=>Mm E ho rz hf hm hx h
    ·simp at hc
   ·simp at hc
  ·simp at hc
 ·rename_i ho
  split at hc
  ·rename_i fs rz
   split at hc
   ·rename_i f hf
    simp only[Option.bind_eq_bind,Option.bind_eq_some_iff,Option.pure_def,Option.some.injEq]at hc
    obtain⟨ag,h1,n,h2,x',h3,rfl⟩:=hc
    exact lj hq fun h=>Mn E ho rz hf h1 h2 h3 h
   ·simp at hc
  ·simp at hc
 ·rename_i ho
  split at hc
  ·rename_i e ht
   split at hc
   ·rename_i m hm
    simp only[Option.bind_eq_bind,Option.bind_eq_some_iff,Option.pure_def,Option.some.injEq]at hc
    obtain⟨x',h1,i',h2,rfl⟩:=hc
    exact lj hq fun h=>Mo S E ho ht hm h1 h2 h
   ·simp at hc
  ·rename_i len e ht
   split at hc
   ·rename_i m hm
    simp only[Option.bind_eq_bind,Option.bind_eq_some_iff,Option.pure_def,Option.some.injEq]at hc
    obtain⟨x',h1,i',h2,rfl⟩:=hc
    exact lj hq fun h=>Pa E ho ht hm h1 h2 h
   ·simp at hc
  ·simp at hc
 ·rename_i ho
  split at hc
  ·rename_i ht
   simp only[Option.bind_eq_bind,Option.bind_eq_some_iff,Option.pure_def,Option.some.injEq]at hc
   obtain⟨x',h1,i',h2,rfl⟩:=hc
   exact lj hq fun h=>Pc E ho ht h1 h2 h
  ·rename_i len e ht
   simp only[Option.bind_eq_bind,Option.bind_eq_some_iff,Option.pure_def,Option.some.injEq]at hc
   obtain⟨ag,h0,n,h1,x',h2,i',h3,rfl⟩:=hc
   exact lj hq fun h=>Pb E ho ht h0 h1 h2 h3 h
  ·simp at hc
 ·rename_i ho
  simp only[Option.map_eq_some_iff]at hc
  obtain⟨x',hx,rfl⟩:=hc
  exact lj hq fun h=>Hp E ho hx h
 ·rename_i ho
  split at hc
  ·rename_i fs rz
   split at hc
   ·rename_i z l hz hl
    split at hc
    ·rename_i dL
     simp only[Option.map_eq_some_iff]at hc
     obtain⟨q,Lf,rfl⟩:=hc
     simp only[eP,Option.map_eq_some_iff,Prod.mk.injEq]at hq
     obtain⟨cs,dt,rfl,rfl⟩:=hq
     exact Ml E ho rz hz hl (fun f hf=>by
      rw[Array.all_eq_true_iff_forall_mem]at dL
      exact dL f (Array.mem_toList_iff.1 hf)) Lf dt
    ·simp at hc
   ·simp at hc
  ·rename_i len e ht
   split at hc
   ·rename_i z l n hz hl hn
    simp only[Option.some.injEq]at hc
    subst hc
    simp only[eP,Option.map_eq_some_iff,Prod.mk.injEq]at hq
    obtain⟨cs,dt,rfl,rfl⟩:=hq
    exact J9 E ho ht hz hl hn dt
   ·simp at hc
  ·simp at hc
 ·rename_i ho
  split at hc
  ·rename_i e ht
   split at hc
   ·rename_i sz z l h1 h2 h3
    split at hc
    ·rename_i hh
     simp only[Option.some.injEq]at hc
     subst hc
     simp only[eP,Option.map_eq_some_iff,Prod.mk.injEq]at hq
     obtain⟨rs,xZ,rfl,rfl⟩:=hq
     exact .inl (Jc E ho ht h1 h2 h3 hh.1 hh.2 (by rw[List.map_map]at xZ;exact xZ))
    ·simp at hc
   ·simp at hc
  ·simp at hc
 ·rename_i ho
  split at hc
  ·rename_i hh
   simp only[Option.map_eq_some_iff]at hc
   obtain⟨l,hl,rfl⟩:=hc
   simp[eP]at hq;obtain⟨rfl,rfl⟩:=hq
   exact Ph E ho hh.1 hh.2 hl
  ·split at hc
   ·rename_i hh
    simp only[Option.map_eq_some_iff]at hc
    obtain⟨l,hl,rfl⟩:=hc
    simp[eP]at hq;obtain⟨rfl,rfl⟩:=hq
    exact Pj E ho hh.1 hh.2 hl
   ·simp at hc
 ·rename_i ho
  split at hc
  ·rename_i e ht
   split at hc
   ·rename_i m z i h1 h2 h3
    split at hc
    ·rename_i hb
     simp only[Option.bind_eq_bind,Option.bind_eq_some_iff,Option.pure_def,Option.some.injEq]at hc
     obtain⟨l',h4,c',h5,rfl⟩:=hc
     simp only[eP,Option.map_eq_some_iff,Prod.mk.injEq]at hq
     obtain⟨⟨n,r⟩,hr,rfl,rfl⟩:=hq
     exact .inl (GF E ho ht h1 h2 h3 hb h4 h5 hr)
    ·simp at hc
   ·simp at hc
  ·simp at hc
 ·rename_i ho
  exact OO ho hc hq S E
 ·rename_i ho
  split at hc
  ·rename_i dir e ht
   split at hc
   ·rename_i i hi
    split at hc
    ·rename_i hb
     simp only[Option.map_eq_some_iff]at hc
     obtain⟨x',hx,rfl⟩:=hc
     simp only[eP,Option.map_eq_some_iff,Prod.mk.injEq]at hq
     obtain⟨n,hn,rfl,rfl⟩:=hq
     exact .inr (.inr (OI E ho ht hi hb hx hn))
    ·cases hc
   ·cases hc
  ·cases hc
 ·simp only[Option.bind_eq_bind,Option.bind_eq_some_iff,Option.pure_def,Option.some.injEq]at hc
  obtain⟨x',_,y',_,rfl⟩:=hc
  simp[eP]at hq
 ·split at hc
  ·split at hc
   ·simp only[Option.map_eq_some_iff]at hc
    obtain⟨x',_,rfl⟩:=hc
    simp[eP]at hq
   ·cases hc
  ·cases hc
 ·rename_i ho
  split at hc
  ·rename_i m z hm
   simp only[Option.some.injEq]at hc
   subst hc
   simp only[eP,List.map_nil,bD,Option.some.injEq,Prod.mk.injEq]at hq
   obtain⟨rfl,rfl⟩:=hq
   exact .inr (.inl (Ro ho))
  ·cases hc
 ·rename_i ho
  split at hc
  ·rename_i m z x' k' hm hx hk
   simp only[Option.some.injEq]at hc
   subst hc
   obtain⟨rfl,h⟩:=Pg (id:=id) S E ho hm hx hk hq
   exact h
  ·cases hc
 ·split at hc
  ·simp only[Option.some.injEq]at hc
   subst hc
   simp[eP]at hq
  ·cases hc
 ·split at hc
  ·simp only[Option.some.injEq]at hc
   subst hc
   simp[eP]at hq
  ·cases hc
 ·simp only[Option.some.injEq]at hc
  subst hc
  simp[eP]at hq
 ·simp only[Option.some.injEq]at hc
  subst hc
  simp[eP]at hq
 ·simp at hc
end
end Go.Proofs.YtgoelphibofcmaaGreat.V

namespace Go.Proofs.YtgoelphibofcmaaGreat.V
open Go.RowKit
variable {P:Program} {w w':World} {D D':Nat->Prop} {ι ι':Names}
def j7 (ι:Names) (id:Id) (B:sk):Names:=fun i=>if i=id then some B else ι i
theorem er (ι:Names) (id:Id) (B:sk):j7 ι id B id=some B:=if_pos rfl
theorem fK {ι:Names} {id:Id} {B:sk} (h:ι id=none):∀i B',ι i=some B'->j7 ι id B i=some B':=fun i B' hi=>by
 have:i≠id:=by rintro rfl;rw[h]at hi;cases hi
 rw[j7,if_neg this];exact hi
theorem fX {ι:Names} {id i:Id} {B:sk} (h:i≠id):j7 ι id B i=ι i:=if_neg h
section
variable {g:Rows} {hs:Nat} {env:Env} {a:Act} {o:Oper} {id:Id} {v:AV}
theorem kD.frame {B:sk} {r:Row} (h:kD P w D ι B r) (hb:w'.heap[B.b]? =w.heap[B.b]?) (hr:∀a v,dd P w D ι a v->dd P w' D' ι' a v):kD P w' D' ι' B r:=
 ⟨h.sz,by obtain⟨c,T,h1,h2⟩:=h.xz;exact⟨c,T,hb.trans h1,h2⟩,h.fits,h.len,h.flat,fun i j cs a hi hj=>by
  obtain⟨v,h1,h2⟩:=h.at_ i j cs a hi hj
  exact⟨v,(World.cell?_of_block (a:=⟨B.b,i*r.sz+j,none⟩) hb).trans h1,hr _ _ h2⟩⟩
theorem gP.frame {B:sk} {r:Row} (h:gP P w D ι B r) (hb:w'.heap[B.b]? =w.heap[B.b]?) (hr:∀a v,dd P w D ι a v->dd P w' D' ι' a v):gP P w' D' ι' B r:=
 ⟨h.sz,h.flat,fun hk=>(h.row hk).frame hb hr,fun m hm=>by
  obtain⟨h1,es,c,h2,h3,h5,h4⟩:=h.map m hm
  refine⟨h1,es,c,hb.trans h2,h3,h5,fun i cs hi=>?_⟩
  obtain⟨e,kv,vv,q1,q2,q3,q4,q5⟩:=h4 i cs hi
  exact⟨e,kv,vv,q1,q2,q3,hr _ _ q4,hr _ _ q5⟩,fun c hc=>by
  obtain⟨h1,buf,s,q,h2,h3,h4⟩:=h.chan c hc
  refine⟨h1,buf,s,q,hb.trans h2,h3,fun i cs hi=>?_⟩
  obtain⟨a,u,q1,q2,q3⟩:=h4 i cs hi
  exact⟨a,u,q1,q2,hr _ _ q3⟩⟩
theorem gm.kill (S:gm P hs D ι g w) (i:Id):gm P hs D ι (bW g i) w:=by
 refine⟨S.lo,S.dead,fun id r h=>?_,fun id kI r r' B B' h h' hw hB dC hb=>?_⟩
 ·unfold bW at h;split at h
  ·cases h
  ·exact S.row id r h
 ·unfold bW at h h'
  split at h
  ·cases h
  ·split at h'
   ·cases h'
   ·exact S.inj id kI r r' B B' h h' hw hB dC hb
theorem gm.sub {g':Rows} (S:gm P hs D ι g w) (h:∀id r,g' id=some r->g id=some r):gm P hs D ι g' w:=
 ⟨S.lo,S.dead,fun id r hr=>S.row id r (h id r hr),fun id kI r r' B B' h1 h2=>S.inj id kI r r' B B' (h _ _ h1) (h _ _ h2)⟩
theorem zZ {hid:List Nat} {n:Nat} {g:Rows}:∀id r,fY hid n g id=some r->g id=some r:=fun id r h=>by
 cases hid with
 |nil=>exact h
 |cons a l=>
  have e:fY (a::l) n g id=if (a::l).contains id.site=true/\id.bm=n then none else g id:=rfl
  rw[e]at h
  by_cases hc:(a::l).contains id.site=true/\id.bm=n
  ·rw[if_pos hc]at h;cases h
  ·rw[if_neg hc]at h;exact h
theorem gm.stay (S:gm P hs D ι g w) (hb:∀b,b<w.heap.size->w'.heap[b]? =w.heap[b]?) (hz:w.heap.size<=w'.heap.size) (hD:∀b,D b->D' b) (hD':∀b,D' b->b<w'.heap.size) (kH:∀b,D' b->D b∨w.heap.size<=b) (hι:∀id B,ι id=some B->ι' id=some B):gm P hs D' ι' g w':=by
 have hr:∀a v,dd P w D ι a v->dd P w' D' ι' a v:=fun a v h=>h.frame (fun b hd=>hb b (S.dead b hd)) hD hι
 have lt:∀{id r B},g id=some r->ι id=some B->B.b<w.heap.size:=fun {id r B} h hB=>by
  obtain⟨B',dC,R,_⟩:=S.row id r h
  rw[hB]at dC;injection dC with dC;subst dC
  exact R.lt
 refine⟨Nat.le_trans S.lo hz,hD',fun id r h=>?_,fun id kI r r' B B' h h' hw hB dC he=>?_⟩
 ·obtain⟨B,hB,R,h1,h2⟩:=S.row id r h
  exact⟨B,hι _ _ hB,R.frame (hb _ (lt h hB)) hr,h1,fun hw hd=>by
   rcases kH _ hd with hd|hd
   ·exact h2 hw hd
   ·have:=lt h hB;omega⟩
 ·obtain⟨C,hC,_⟩:=S.row id r h
  obtain⟨C',Df,_⟩:=S.row kI r' h'
  have e1:=hι _ _ hC
  have e2:=hι _ _ Df
  rw[hB]at e1;injection e1 with e1;subst e1
  rw[dC]at e2;injection e2 with e2;subst e2
  exact S.inj id kI r r' _ _ h h' hw hC Df he
theorem Step.stay (S:gm P hs D ι g w) (hb:∀b,b<w.heap.size->w'.heap[b]? =w.heap[b]?) (hz:w.heap.size<=w'.heap.size) (e1:w'.os=w.os) (e2:w'.tape=w.tape) (e3:w'.output=w.output) (hD:∀b,D b->D' b) (kH:∀b,D' b->D b∨w.heap.size<=b) (hι:∀id B,ι id=some B->ι' id=some B):Step hs D ι w D' ι' w':=
 ⟨⟨e1,e2,e3,hz,fun k hk=>hb k (Nat.lt_of_lt_of_le hk S.lo)⟩,fun b hd=>hb b (S.dead b hd),hD,hι,fun b h=>(kH b h).imp_right (Nat.le_trans S.lo)⟩
theorem gm.alloc (S:gm P hs D ι g w) {cells:Array Value} {T:TypeId} {r:Row} (hh:w'.heap=w.heap.push (.cells cells T (0,0))) (hn:ι id=none) (hw:r.w=true) (h1:r.rows.length*r.sz<=cells.size) (h2:∀cs∈r.rows,cs.length=r.sz) (h3:∀cs∈r.rows,∀a∈cs,a.cell=true)
  (h4:∀i j cs a,r.rows[i]? =some cs->cs[j]? =some a->∃x,cells[i*r.sz+j]? =some x/\dd P w D ι a x):gm P hs D (j7 ι id ⟨w.heap.size,r.sz,cells.size,none⟩) (bI g id r) w':=by
 have hb:∀b,b<w.heap.size->w'.heap[b]? =w.heap[b]? :=fun b dP=>by rw[hh,Array.getElem?_push,if_neg (by omega)]
 have hz:w.heap.size<=w'.heap.size:=by rw[hh];simp
 have S':=S.stay (D':=D) (ι':=j7 ι id ⟨w.heap.size,r.sz,cells.size,none⟩) hb hz (fun _ h=>h) (fun b hd=>Nat.lt_of_lt_of_le (S.dead b hd) hz) (fun _ h=>.inl h) (fK hn)
 have hr:∀a v,dd P w D ι a v->dd P w' D (j7 ι id ⟨w.heap.size,r.sz,cells.size,none⟩) a v:=fun a v h=>h.frame (fun b hd=>hb b (S.dead b hd)) (fun _ h=>h) (fK hn)
 have kH:w'.heap[w.heap.size]? =some (.cells cells T (0,0)):=by rw[hh];simp
 have gone:g id=none:=by
  cases hg:g id with
  |none=>rfl
  |some q=>
   obtain⟨B,hB,_⟩:=S.row id q hg
   rw[hn]at hB;cases hB
 have lt:∀{i q B},g i=some q->ι i=some B->B.b<w.heap.size:=fun {i q B} h hB=>by
  obtain⟨B',dC,R,_⟩:=S.row i q h
  rw[hB]at dC;injection dC with dC;subst dC
  exact R.lt
 refine⟨S'.lo,S'.dead,fun i q h=>?_,fun i i' q q' B B' h h' Q3 hB dC he=>?_⟩
 ·unfold bI at h
  split at h
  ·rename_i e
   subst e
   injection h with h;subst h
   refine⟨_,er _ _ _,kD.obj ⟨rfl,⟨cells,T,kH,rfl⟩,h1,h2,h3,fun k j cs a hk hj=>?_⟩ rfl,fun _=>S.lo,fun _ hd=>?_⟩
   ·obtain⟨x,hx,hrx⟩:=h4 k j cs a hk hj
    exact⟨x,by simp[World.cell?,kH,hx],hr _ _ hrx⟩
   ·have:=S.dead _ hd;simp at this
  ·exact S'.row i q h
 ·unfold bI at h h'
  split at h
  ·rename_i e
   split at h'
   ·rename_i e';exact e.trans e'.symm
   ·exfalso
    rename_i e'
    subst e
    rw[er]at hB;injection hB with hB;subst hB
    rw[fX e']at dC
    have:=lt h' dC
    simp at he;omega
  ·rename_i e
   split at h'
   ·exfalso
    rename_i e'
    subst e'
    rw[er]at dC;injection dC with dC;subst dC
    rw[fX e]at hB
    have:=lt h hB
    simp at he;omega
   ·exact S'.inj i i' q q' B B' h h' Q3 hB dC he
theorem gm.put (S:gm P hs D ι g w) {r r':Row} {B:sk} {cur cur':Array Value} {T:TypeId} (hid:g id=some r) (hw:r.w=true) (hB:ι id=some B) (hblk:w.heap[B.b]? =some (.cells cur T (0,0))) (fb:cur'.size=cur.size)
  (h0:r'.w=true) (h1:r'.sz=r.sz) (h2:r'.rows.length*r'.sz<=B.C) (h3:∀cs∈r'.rows,cs.length=r'.sz) (h4:∀cs∈r'.rows,∀a∈cs,a.cell=true)
  (h5:∀i j cs a,r'.rows[i]? =some cs->cs[j]? =some a->∃v,cur'[i*r.sz+j]? =some v/\dd P w D ι a v):gm P hs D ι (bI g id r') (w.setRow B.b cur')/\Step hs D ι w D ι (w.setRow B.b cur'):=by
 obtain⟨B0,wQ,RO,jT,lN⟩:=S.row id r hid
 rw[hB]at wQ;injection wQ with wQ;subst wQ
 have wS:=RO.LN hblk
 have R:=RO.row wS
 have hd:∀b,D b->(w.setRow B.b cur').heap[b]? =w.heap[b]? :=fun b hb=>setRow_other w B.b b cur' (by rintro rfl;exact lN hw hb)
 have hr:∀a v,dd P w D ι a v->dd P (w.setRow B.b cur') D ι a v:=fun a v h=>h.frame hd (fun _ h=>h) (fun _ _ h=>h)
 have hC:cur.size=B.C:=by
  obtain⟨c,T',h1,h2⟩:=R.xz
  rw[hblk]at h1;injection h1 with h1;injection h1 with h1 NL;subst h1;exact h2
 refine⟨⟨by simpa using S.lo,fun b hb=>by simpa using S.dead b hb,fun i q h=>?_,fun i i' q q' C C' h h' Q3 hC Df he=>?_⟩,⟨⟨by simp,by simp,by simp,by simp,fun k hk=>setRow_other w B.b k cur' (by have:=jT hw;omega)⟩,hd,fun _ h=>h,fun _ _ h=>h,fun _ h=>.inl h⟩⟩
 ·unfold bI at h
  split at h
  ·rename_i e
   subst e
   injection h with h;subst h
   refine⟨B,hB,kD.obj ⟨by rw[h1];exact R.sz,⟨cur',T,setRow_heap w B.b cur cur' T _ hblk,by rw[fb];exact hC⟩,h2,h3,h4,fun k j cs a hk hj=>?_⟩ wS,fun _=>jT hw,fun _=>lN hw⟩
   obtain⟨v,hv,lu⟩:=h5 k j cs a hk hj
   exact⟨v,by rw[cell_setRow_same w B.b _ cur cur' T _ hblk,h1];exact hv,hr _ _ lu⟩
  ·rename_i e
   obtain⟨C,hC,RC,k1,k2⟩:=S.row i q h
   refine⟨C,hC,RC.frame (setRow_other w B.b C.b cur' (fun MD=>e ?_)) hr,k1,k2⟩
   exact(S.inj id i r q B C hid h hw hB hC MD.symm).symm
 ·unfold bI at h h'
  have get:∀j p,(if j=id then some r' else g j)=some p->∃p0,g j=some p0/\(p.w=true->p0.w=true):=fun j p hp=>by
   split at hp
   ·rename_i e;subst e;injection hp with hp;subst hp;exact⟨r,hid,fun _=>hw⟩
   ·exact⟨p,hp,fun h=>h⟩
  obtain⟨p,hp,PN⟩:=get _ _ h
  obtain⟨p',Ol,_⟩:=get _ _ h'
  exact S.inj i i' p p' C C' hp Ol (PN Q3) hC Df he
theorem gm.rename (S:gm P hs D ι g w) {i:Id} {r:Row} {B:sk} (hi:g i=some r) (hw:r.w=true) (hB:ι i=some B) (hn:ι id=none):gm P hs D (j7 ι id B) (bI (bW g i) id r) w:=by
 have S':=S.stay (w':=w) (D':=D) (ι':=j7 ι id B) (fun _ _=>rfl) (Nat.le_refl _) (fun _ h=>h) S.dead (fun _ h=>.inl h) (fK hn)
 have gU:i≠id:=by rintro rfl;rw[hn]at hB;cases hB
 obtain⟨B1,Ae,R,k1,k2⟩:=S'.row i r hi
 rw[fX gU,hB]at Ae;injection Ae with Ae;subst Ae
 have get:∀j p,bI (bW g i) id r j=some p->(j=id/\p=r)∨(j≠id/\j≠i/\g j=some p):=fun j p hp=>by
  unfold bI bW at hp
  split at hp
  ·rename_i e;injection hp with hp;exact .inl ⟨e,hp.symm⟩
  ·rename_i e
   split at hp
   ·cases hp
   ·rename_i e';exact .inr ⟨e,e',hp⟩
 refine⟨S.lo,S.dead,fun j p h=>?_,fun j j' p p' C C' h h' PN hC Df he=>?_⟩
 ·rcases get j p h with⟨rfl,rfl⟩|⟨_,_,hp⟩
  ·exact⟨B,er _ _ _,R,k1,k2⟩
  ·exact S'.row j p hp
 ·rcases get j p h with⟨rfl,rfl⟩|⟨q1,q2,hp⟩
  ·rcases get j' p' h' with⟨rfl,rfl⟩|⟨q1',q2',Ol⟩
   ·rfl
   ·exfalso
    rw[er]at hC;injection hC with hC;subst hC
    rw[fX q1']at Df
    exact q2' (S.inj i j' p p' B C' hi Ol hw hB Df he).symm
  ·rcases get j' p' h' with⟨rfl,rfl⟩|⟨q1',q2',Ol⟩
   ·exfalso
    rw[er]at Df;injection Df with Df;subst Df
    rw[fX q1]at hC
    exact q2 (S.inj j i p p' C B hp hi PN hC hB he)
   ·rw[fX q1]at hC
    rw[fX q1']at Df
    exact S.inj j j' p p' C C' hp Ol PN hC Df he
def CF (P:Program) (hs:Nat) (a:Act) (o:Oper) (w:World) (D:Nat->Prop) (ι:Names) (id:Id) (v:AV) (g':Rows):Prop:=
 ∃u w' ι',((execOp a.eval o).run P w=.ok (.value u) w'∨(execOp a.eval o).run P w=.ok .skip w'/\u=undef)/\Step hs D ι w D ι' w'/\gm P hs D ι' g' w'/\dd P w' D ι' v u/\∀i,i≠id->ι' i=ι i
theorem Ca {xs:List AV} {vs:Array Value} (h:fe P w D ι xs vs) (hf:∀a∈xs,a.cell=true):∀v∈vs.toList,v.oneCell'=true:=by
 intro v hv
 obtain⟨j,hj,rfl⟩:=List.getElem_of_mem hv
 have Kj:j<xs.length:=by rw[<-h.1];simpa using hj
 obtain⟨u,hu,hr⟩:=h.2 j _ (List.getElem?_eq_getElem Kj)
 have hc:=hr.AJ (hf _ (List.getElem_mem Kj))
 have:vs.toList[j]=u:=by
  have:vs.toList[j]? =some u:=by simpa using hu
  rw[List.getElem?_eq_getElem hj]at this;injection this
 rw[this]
 cases u<;>simp_all [Value.oneCell']
theorem jH {i j n m:Nat} (h:i<n) (hj:j<m):i*m+j<n*m:=by
 have:(i+1)*m<=n*m:=Nat.mul_le_mul_right _ h
 rw[Nat.add_mul,Nat.one_mul]at this;omega
theorem kD.cur {B:sk} {r:Row} (R:kD P w D ι B r):∃cur T,w.heap[B.b]? =some (.cells cur T (0,0))/\cur.size=B.C/\∀i j cs a,r.rows[i]? =some cs->cs[j]? =some a->∃v,cur[i*r.sz+j]? =some v/\dd P w D ι a v:=by
 obtain⟨cur,T,h1,h2⟩:=R.xz
 refine⟨cur,T,h1,h2,fun i j cs a hi hj=>?_⟩
 obtain⟨v,hv,hr⟩:=R.at_ i j cs a hi hj
 exact⟨v,by simpa[World.cell?,h1]using hv,hr⟩
theorem KM {t:TypeId} {n:Nat} {x y:Operand} {x' y':O} {g':Rows} (S:gm P hs D ι g w) (E:cj P w D ι env a) (ho:o.op=.store t x y) (hn:dW P t=some n) (hx:cO P x=some x') (hy:cO P y=some y')
  (hv:bU g n (cL env y') (cL env x')=some g'):CF P hs a o w D ι id .undef g':=by
 have rx:=di E hx
 have ry:=di E hy
 unfold bU at hv
 split at hv
 ·rename_i i k off hp
  rw[hp]at rx
  simp only[Option.bind_eq_some_iff]at hv
  obtain⟨r,hg,cs,dt,hv⟩:=hv
  split at hv
  ·rename_i hc
   obtain⟨c1,c2,c3,c4⟩:=hc
   simp at hv;subst hv
   obtain⟨B,he,hB,hk⟩:=iO rx
   obtain⟨B',dC,R,jT,lN⟩:=S.row i r hg
   rw[hB]at dC;injection dC with dC;subst dC
   replace R:=R.row hk
   obtain⟨cur,T,hblk,hC,vh⟩:=R.cur
   have hL:=qH ry c3
   have h1:=Ca hL (List.all_eq_true.1 c3)
   have Lo:(a.eval y).cells.size=n:=by rw[hL.1,c2]
   have k8:=(List.getElem?_eq_some_iff.1 dt).1
   have hlen:=R.len cs (List.mem_of_getElem? dt)
   have hbound:k*r.sz+r.sz<=r.rows.length*r.sz:=by
    have:(k+1)*r.sz<=r.rows.length*r.sz:=Nat.mul_le_mul_right _ k8
    rwa [Nat.add_mul,Nat.one_mul]at this
   have hf:=R.fits
   have dH:=run_storeCells_at P B.b (k*B.sz+off) T (a.eval y).cells.toList 0 cur w hblk (by rw[R.sz];simp only[Array.length_toList];omega) h1
   simp only[Nat.add_zero,Array.length_toList]at dH
   have rE:=S.put (r':={r with rows:=r.rows.set k (cJ cs off (cL env y').cells)}) hg c1 hB hblk (cur':=(cur.toList.take (k*B.sz+off)++(a.eval y).cells.toList++cur.toList.drop (k*B.sz+off+(a.eval y).cells.size)).toArray)
    (by rw[R.sz];simp;omega) c1 rfl (by simpa using R.fits) (fun c QB=>by
     rcases List.mem_or_eq_of_mem_set QB with h|rfl
     ·exact R.len c h
     ·simp[cJ];omega) (fun c QB b hb=>by
     rcases List.mem_or_eq_of_mem_set QB with h|rfl
     ·exact R.flat c h b hb
     ·unfold cJ at hb
      rcases List.mem_append.1 hb with hb|hb
      ·rcases List.mem_append.1 hb with hb|hb
       ·exact R.flat cs (List.mem_of_getElem? dt) b (List.mem_of_mem_take hb)
       ·exact List.all_eq_true.1 c3 b hb
      ·exact R.flat cs (List.mem_of_getElem? dt) b (List.mem_of_mem_drop hb)) (fun i2 j c b xS hj=>by
     rw[R.sz]
     simp only[List.getElem?_toArray]
     by_cases xT:i2=k
     ·subst xT
      rw[List.getElem?_set_self k8]at xS
      injection xS with xS;subst xS
      unfold cJ at hj
      by_cases hjo:j<off
      ·rw[List.append_assoc,List.getElem?_append_left (by simp;omega),List.getElem?_take,if_pos hjo]at hj
       rw[List.append_assoc,List.getElem?_append_left (by simp;omega),List.getElem?_take,if_pos (by omega)]
       simpa using vh _ _ _ _ dt hj
      ·by_cases ia:j<off+n
       ·rw[List.append_assoc,List.getElem?_append_right (by simp;omega),List.getElem?_append_left (by simp;omega)]at hj
        rw[List.append_assoc,List.getElem?_append_right (by simp;omega),List.getElem?_append_left (by simp;omega)]
        simp only[List.length_take]at hj ⊢
        rw[show j-min off cs.length=j-off by omega]at hj
        rw[show i2*r.sz+j-min (i2*r.sz+off) cur.toList.length=j-off by simp;omega]
        simpa using hL.2 _ _ hj
       ·rw[List.getElem?_append_right (by simp;omega)]at hj
        rw[List.getElem?_append_right (by simp;omega)]
        simp only[List.length_append,List.length_take,List.getElem?_drop,Array.length_toList]at hj ⊢
        rw[show off+(cL env y').cells.length+(j-(min off cs.length+(cL env y').cells.length))=j by omega]at hj
        rw[show i2*r.sz+off+(a.eval y).cells.size+(i2*r.sz+j-(min (i2*r.sz+off) cur.size+(a.eval y).cells.size))=i2*r.sz+j by omega]
        simpa using vh _ _ _ _ dt hj
     ·rw[List.getElem?_set_ne (fun e=>xT e.symm)]at xS
      have hi2l:=(List.getElem?_eq_some_iff.1 xS).1
      have gG:j<r.sz:=by rw[<-R.len c (List.mem_of_getElem? xS)];exact(List.getElem?_eq_some_iff.1 hj).1
      have:=vh _ _ _ _ xS hj
      rcases Nat.lt_or_gt_of_ne xT with dP|K1
      ·have h2:i2*r.sz+j<k*r.sz:=jH dP gG
       rw[List.append_assoc,List.getElem?_append_left (by simp;omega),List.getElem?_take,if_pos (by omega)]
       simpa using this
      ·have h2:k*r.sz+r.sz<=i2*r.sz:=by
        have:(k+1)*r.sz<=i2*r.sz:=Nat.mul_le_mul_right _ K1
        rwa [Nat.add_mul,Nat.one_mul]at this
       rw[List.getElem?_append_right (by simp;omega)]
       simp only[List.length_append,List.length_take,List.getElem?_drop,Array.length_toList]
       rw[show k*r.sz+off+(a.eval y).cells.size+(i2*r.sz+j-(min (k*r.sz+off) cur.size+(a.eval y).cells.size))=i2*r.sz+j by omega]
       simpa using this)
   refine⟨undef,_,ι,.inr ⟨?_,rfl⟩,rE.2,rE.1,dd.undef,fun _ _=>rfl⟩
   simp only[execOp,ho,he,Instr.storeAt,Instr.sureAddr,storeVar,Sem.run_bind,Sem.run_pure,Result.andThen_ok,run_sizeOf hn,Lo,ne_eq,not_true_eq_false,if_false,dH]
  ·simp at hv
 ·simp at hv
end
end Go.Proofs.YtgoelphibofcmaaGreat.V

namespace Go.Proofs.YtgoelphibofcmaaGreat.V
open Go.RowKit
variable {P:Program} {w w':World} {D D':Nat->Prop} {ι ι':Names}
section
variable {g:Rows} {hs:Nat} {env:Env} {a:Act} {o:Oper} {id:Id} {v:AV}
theorem rR (S:gm P hs D ι g w) {y:AV} {u:Value} {ys:List (List AV)} {sz:Nat} (hr:dd P w D ι y u) (hy:bw g y=some ys) (hl:∀c∈ys,c.length=sz) (hf:∀c∈ys,∀b∈c,b.cell=true):
  ∃A c,u=.slice A ys.length c/\(ys=[]∨∃b o,∃news:List Value,A=some ⟨b,o,none⟩/\news.length=ys.length*sz/\(∀j v,news[j]? =some v->w.cell? ⟨b,o+j,none⟩=some v)/\fe P w D ι ys.flatten news.toArray/\∀v∈news,v.oneCell'=true):=by
 have fin:∀b o,ys≠[]->(∀i j cs x,ys[i]? =some cs->cs[j]? =some x->∃v,w.cell? ⟨b,o+(i*sz+j),none⟩=some v/\dd P w D ι x v)->
   ∃news:List Value,news.length=ys.length*sz/\(∀j v,news[j]? =some v->w.cell? ⟨b,o+j,none⟩=some v)/\fe P w D ι ys.flatten news.toArray/\∀v∈news,v.oneCell'=true:=by
  intro b o _ h
  have hlen:=Iq hl
  have at_:∀k,k<ys.length*sz->∃x,ys.flatten[k]? =some x/\∃v,w.cell? ⟨b,o+k,none⟩=some v/\dd P w D ι x v:=by
   intro k hk
   have lf:0<sz:=by
    rcases Nat.eq_zero_or_pos sz with h0|h0
    ·subst h0;simp at hk
    ·exact h0
   have hi:k / sz<ys.length:=Nat.div_lt_of_lt_mul (by rw[Nat.mul_comm];exact hk)
   have hj:k % sz<sz:=Nat.mod_lt _ lf
   have dt:=List.getElem?_eq_getElem hi
   have gG:k % sz<ys[k / sz].length:=by rw[hl _ (List.getElem_mem hi)];exact hj
   have hx:=List.getElem?_eq_getElem gG
   have e:k / sz*sz+k % sz=k:=by rw[Nat.mul_comm];exact Nat.div_add_mod _ _
   refine⟨_,by rw[<-flat_get hl dt hx,e],?_⟩
   obtain⟨v,hv,lu⟩:=h _ _ _ _ dt hx
   rw[e]at hv
   exact⟨v,hv,lu⟩
  let news:=(List.range (ys.length*sz)).map fun k=>(w.cell? ⟨b,o+k,none⟩).getD undef
  have hn:∀k,k<ys.length*sz->∀v,w.cell? ⟨b,o+k,none⟩=some v->news[k]? =some v:=fun k hk v hv=>by
   simp only[news,List.getElem?_map,List.getElem?_range hk,Option.map_some,hv,Option.getD_some]
  have hR:fe P w D ι ys.flatten news.toArray:=⟨by simp[news,hlen],fun j x hx=>by
   have gG:=(List.getElem?_eq_some_iff.1 hx).1
   rw[hlen]at gG
   obtain⟨x',tr,v,hv,lu⟩:=at_ j gG
   rw[hx]at tr;injection tr with tr;subst tr
   exact⟨v,by simpa using hn j gG v hv,lu⟩⟩
  refine⟨news,by simp[news],fun j v hj=>?_,hR,?_⟩
  ·have gG:j<ys.length*sz:=by have:=(List.getElem?_eq_some_iff.1 hj).1;simpa[news]using this
   obtain⟨x,_,v',nJ,_⟩:=at_ j gG
   rw[hn j gG v' nJ]at hj
   injection hj with hj
   rw[<-hj];exact nJ
  ·have:=Ca hR (fun x hx=>by
    obtain⟨c,hc,UG⟩:=List.mem_flatten.1 hx
    exact hf c hc x UG)
   simpa using this
 unfold bw at hy
 split at hy
 ·simp at hy;subst hy
  exact⟨none,0,iM hr,.inl rfl⟩
 ·rename_i rows
  simp at hy;subst hy
  obtain⟨A,c,he,_,_,h3⟩:=wj hr
  refine⟨A,c,he,?_⟩
  rcases h3 with h3|⟨b,oo,sz',vs,rfl,hD,Kl,_,hc,hi⟩
  ·exact .inl h3
  ·by_cases h0:rows=[]
   ·exact .inl h0
   ·have Bk:sz'=sz:=by
     cases rows with
     |nil=>exact(h0 rfl).elim
     |cons c r=>rw[<-Kl c (by simp),hl c (by simp)]
    subst Bk
    obtain⟨news,q1,q2,q3,q4⟩:=fin b oo h0 (fun i j cs x dt hx=>⟨_,hc i j (List.getElem?_eq_some_iff.1 dt).1 (by rw[<-Kl cs (List.mem_of_getElem? dt)];exact(List.getElem?_eq_some_iff.1 hx).1),.eO _ _ (hi i j cs x dt hx)⟩)
    exact .inr ⟨b,oo,news,rfl,q1,q2,q3,q4⟩
 ·rename_i i off len
  simp only[Option.bind_eq_some_iff]at hy
  obtain⟨r,hg,hy⟩:=hy
  split at hy
  ·rename_i hle
   simp at hy;subst hy
   obtain⟨oo,cap,B,he,hB,h1,h2,h3,h4,hk⟩:=iN hr
   obtain⟨B',dC,R,_,_⟩:=S.row i r hg
   rw[hB]at dC;injection dC with dC;subst dC
   replace R:=R.row hk
   have hlen:((r.rows.drop off).take len).length=len:=by simp;omega
   refine⟨some ⟨B.b,oo,none⟩,cap,by rw[hlen];exact he,?_⟩
   by_cases h0:(r.rows.drop off).take len=[]
   ·exact .inl h0
   ·have Bk:r.sz=sz:=by
     cases hq:(r.rows.drop off).take len with
     |nil=>exact(h0 hq).elim
     |cons c q=>
      have hm:c∈(r.rows.drop off).take len:=by rw[hq];simp
      rw[<-hl c hm,R.len c (List.mem_of_mem_drop (List.mem_of_mem_take hm))]
    have hlp:0<len:=by rw[<-hlen];exact List.length_pos_iff.2 h0
    have Cv:oo=off*B.sz:=by rcases h2 with h2|h2<;>omega
    obtain⟨news,q1,q2,q3,q4⟩:=fin B.b oo h0 (fun i2 j cs x dt hx=>by
     rw[List.getElem?_take]at dt
     split at dt
     ·rw[List.getElem?_drop]at dt
      obtain⟨v,hv,lu⟩:=R.at_ _ _ _ _ dt hx
      refine⟨v,?_,lu⟩
      rw[Cv,R.sz,<-Bk]
      rw[Nat.add_mul]at hv
      rw[<-Nat.add_assoc]
      exact hv
     ·simp at dt)
    exact .inr ⟨B.b,oo,news,rfl,q1,q2,q3,q4⟩
  ·simp at hy
 ·simp at hy
theorem oP {t ty e:TypeId} {i:TypeInfo} (ht:P.underlying t=some (.slice e)) (hi:P.info? e=some i) (A:Option Addr) (n c:Nat) (hn:n<=c) (B:Option Addr) (d:Nat):
  (Builtin.append_ #[t,t] ty #[.slice A n c,.slice B 0 d]).run P w=.ok (.slice A n c) w:=by
 have hf:(Builtin.firstCells i.size 0 (.slice B 0 d)).run P w=.ok #[] w:=by
  cases B<;>simp[Builtin.firstCells,loadCells,loadCellsFrom]
 cases A with
 |none=>simp[Builtin.append_,run_underlying ht,sizeOf,typeInfo,hi,Builtin.lenOf,hn,hf]
 |some A=>simp[Builtin.append_,run_underlying ht,sizeOf,typeInfo,hi,Builtin.lenOf,hn,hf,storeCells]
theorem xn {t ty e T:TypeId} {i:TypeInfo} (ht:P.underlying t=some (.slice e)) (hi:P.info? e=some i) (b rU Eb:Nat) (cur:Array Value) (hg:w.heap[b]? =some (.cells cur T (0,0)))
  (x:Addr) (m c:Nat) (news:List Value) (hl:news.length=m*i.size) (QW:∀j u,news[j]? =some u->w.cell? (x.add j)=some u) (h1:∀u∈news,u.oneCell'=true)
  (fP:rU+m<=Eb) (sI:rU*i.size+news.length<=cur.size):
  (Builtin.append_ #[t,t] ty #[.slice (some ⟨b,0,none⟩) rU Eb,.slice (some x) m c]).run P w=
   .ok (.slice (some ⟨b,0,none⟩) (rU+m) Eb) (w.setRow b (cur.toList.take (rU*i.size)++news++cur.toList.drop (rU*i.size+news.length)).toArray):=by
 have hf:=run_firstCells_some (P:=P) w i.size m x m c news hl QW
 have dH:=run_storeCells_at P b (rU*i.size) T news 0 cur w hg (by simpa using sI) h1
 simp only[Nat.add_zero]at dH
 simp[Builtin.append_,run_underlying ht,sizeOf,typeInfo,hi,Builtin.lenOf,fP,hf,jZ,dH]
theorem A8 (w:World) (GK B4:Nat) (e:TypeId) (h:GK<=dE):GK<=grownCap w GK B4 e/\grownCap w GK B4 e<=maxLen:=by
 unfold dE at h
 simp only[grownCap,Question.cut,maxLen]
 have:=Nat.mod_lt (w.tape w.drawn (.appendCap GK B4 e)) (show 0<2 ^ 63-GK by omega)
 omega
theorem fR {x y:Operand} {t:TypeId} {u:Value} (ho:o.op=.call {callee:=.builtin .append,args:= #[x,y],argTypes:= #[t,t]}) (h:(Builtin.append_ #[t,t] o.type #[a.eval x,a.eval y]).run P w=.ok u w'):(execOp a.eval o).run P w=.ok (.value u) w':=by
 simp only[execOp,ho,resolve,Sem.run_bind,Sem.run_pure,Result.andThen_ok,invoke,builtin]
 simp only[List.map_toArray,List.map_cons,List.map_nil]
 rw[h];rfl
theorem Cf {T:TypeId} (S:gm P hs D ι g w) (cells:Array Value) (hn:ι id=none) (B:sk):Step hs D ι w D (j7 ι id B) (w.drew.alloc (.cells cells T)):=
 Step.stay S (fun k hk=>by show(w.heap.push _)[k]? = _;rw[Array.getElem?_push,if_neg (by omega)]) (by show _<=(w.heap.push _).size;simp) rfl rfl rfl (fun _ h=>h) (fun _ h=>.inl h) (fK hn)
theorem Ia {x y:Operand} {x' y':O} {t e:TypeId} {m:Nat} {z:List K} {i:TypeInfo} {ys:List (List AV)} {g':Rows} (S:gm P hs D ι g w) (E:cj P w D ι env a) (hn:ι id=none) (ho:o.op=.call {callee:=.builtin .append,args:= #[x,y],argTypes:= #[t,t]})
  (ht:P.underlying t=some (.slice e)) (fb:dW P e=some (m+1)) (hz:jz P e=some z) (hi:P.info? e=some i) (hby:i.bytes<=32768) (hx:cO P x=some x') (hy:cO P y=some y') (CD:bw g (cL env y')=some ys)
  (hv:aW g id (m+1) (cL env x') ys=some (v,g')):CF P hs a o w D ι id v g':=by
 have rx:=di E hx
 have ry:=di E hy
 obtain⟨it,zv,qM,pR,PX,hm,E9⟩:=jM hz
 rw[hi]at qM;injection qM with qM;subst qM
 have jt:i.size=m+1:=by simpa[dW,hi]using fb
 have fits:∀n,n<=dE->n*i.bytes<=140737488355328:=fun n h=>by
  unfold dE at h
  have:=Nat.mul_le_mul h hby
  omega
 have e63:∀n,n<=dE->(n:Int)<=9223372036854775807:=fun n h=>by unfold dE at h;omega
 have same:∀(w1:World) (cells:Array Value),w1=w.drew.alloc (.cells cells e)->w1.heap=w.heap.push (.cells cells e (0,0)):=fun w1 cells h=>by subst h;rfl
 have P9:∀l:List (List AV),(l.all fun c=>c.length==m+1&&c.all AV.cell)=true->(∀c∈l,c.length=m+1)/\∀c∈l,∀b∈c,b.cell=true:=fun l h=>by
  rw[List.all_eq_true]at h
  refine⟨fun c hc=>?_,fun c hc b hb=>?_⟩
  ·have:=h c hc;simp at this;exact this.1
  ·have:=h c hc;simp at this;exact this.2 b hb
 unfold aW at hv
 split at hv
 ·rename_i hb
  rw[hb]at rx
  have ex:=iM rx
  split at hv
  ·simp at hv
   obtain⟨rfl,rfl⟩:=hv
   obtain⟨A,c,ey,_⟩:=rR (sz:=m+1) S ry CD (fun c h=>by cases h) (fun c h=>by cases h)
   refine⟨_,w,ι,.inl (fR ho (by rw[ex,ey];exact oP ht hi none 0 0 (Nat.le_refl _) A c)),Step.refl _ _ _ _,S,.eO _ _ .cr,fun _ _=>rfl⟩
  ·rename_i y0 yr
   split at hv
   ·rename_i hc
    simp only[Option.some.injEq,Prod.mk.injEq]at hv
    obtain⟨rfl,rfl⟩:=hv
    obtain⟨hl,hf⟩:=P9 _ hc.2
    obtain⟨A,c,ey,h2⟩:=rR (sz:=m+1) S ry CD hl hf
    rcases h2 with h2|⟨b,oo,news,rfl,q1,q2,q3,q4⟩
    ·cases h2
    have gr:=run_append_nil (P:=P) w t o.type e i zv ht hi pR ⟨b,oo,none⟩ (y0::yr).length c news (by rw[jt];exact q1) (fun j v hj=>by rw[jZ];exact q2 j v hj) (by simp) (e63 _ hc.1) (by have:=fits _ hc.1;omega)
    obtain⟨g1,g2⟩:=A8 w (y0::yr).length 0 e hc.1
    have dt:(news.toArray++Builtin.zeroCells zv.cells (grownCap w (y0::yr).length 0 e-(y0::yr).length)).size=grownCap w (y0::yr).length 0 e*(m+1):=by
     rw[Array.size_append,size_zeroCells,PX,jt]
     simp only[List.size_toArray,q1]
     rw[<-Nat.add_mul];congr 1;omega
    have S1:=S.alloc (w':=w.drew.alloc (.cells (news.toArray++Builtin.zeroCells zv.cells (grownCap w (y0::yr).length 0 e-(y0::yr).length)) e)) (r:=⟨true,m+1,y0::yr⟩) rfl hn rfl (by rw[dt];exact Nat.mul_le_mul_right _ g1) hl hf
     (fun k j cs b2 hk hj=>by
      obtain⟨u,hu,xg⟩:=q3.2 _ _ (flat_get hl hk hj)
      refine⟨u,?_,xg⟩
      have dP:=(Array.getElem?_eq_some_iff.1 hu).1
      dsimp only
      rw[Array.getElem?_append_left dP];exact hu)
    have dH:=Cf (T:=e) S (news.toArray++Builtin.zeroCells zv.cells (grownCap w (y0::yr).length 0 e-(y0::yr).length)) hn ⟨w.heap.size,m+1,(news.toArray++Builtin.zeroCells zv.cells (grownCap w (y0::yr).length 0 e-(y0::yr).length)).size,none⟩
    refine⟨_,_,_,.inl (fR ho (by rw[ex,ey];exact gr)),dH,S1,?_,fun _ h=>fX h⟩
    refine .own _ _ _ _ _ _ (er _ _ _) rfl g1 (.inr (by simp)) ?_ g2
    dsimp only;rw[dt];simp
   ·simp at hv
 ·rename_i i0 len hb
  rw[hb]at rx
  simp only[Option.bind_eq_some_iff]at hv
  obtain⟨r,hg,hv⟩:=hv
  split at hv
  ·rename_i hc
   obtain⟨c1,c2,c3,c4,c5⟩:=hc
   simp only[Option.some.injEq,Prod.mk.injEq]at hv
   obtain⟨rfl,rfl⟩:=hv
   obtain⟨hl,hf⟩:=P9 _ c5
   obtain⟨A,c,ey,h2⟩:=rR (sz:=m+1) S ry CD hl hf
   obtain⟨oo,cap,B,ex,hB,h1,Cv,h3,h4,hk⟩:=iN rx
   obtain⟨B',dC,R,jT,lN⟩:=S.row _ _ hg
   rw[hB]at dC;injection dC with dC;subst dC
   replace R:=R.row hk
   have Iv:B.sz=m+1:=R.sz.trans c2
   have zq:∀cs∈r.rows++ys,cs.length=m+1:=fun cs dt=>by
    rcases List.mem_append.1 dt with h|h
    ·rw[<-c2];exact R.len cs h
    ·exact hl cs h
   have Mz:∀cs∈r.rows++ys,∀b∈cs,b.cell=true:=fun cs dt=>by
    rcases List.mem_append.1 dt with h|h
    ·exact R.flat cs h
    ·exact hf cs h
   rcases h2 with rfl|⟨yb,yo,news,rfl,q1,q2,q3,q4⟩
   ·have Gk:=S.rename hg c1 hB hn
    refine⟨_,w,j7 ι id B,.inl (fR ho (by rw[ex,ey];exact oP ht hi _ _ _ h1 A c)),⟨Below.refl _ _,fun _ _=>rfl,fun _ h=>h,fK hn,fun _ h=>.inl h⟩,?_,?_,fun _ h=>fX h⟩
    ·have:(⟨true,m+1,r.rows++[]⟩:Row)=r:=by cases r;simp_all
     rw[this];exact Gk
    ·simp only[List.length_nil,Nat.add_zero]
     exact .own _ _ _ _ _ B (er _ _ _) hk h1 Cv h3 h4
   ·obtain⟨cur,T,hblk,hC,vh⟩:=R.cur
    by_cases fP:len+ys.length<=cap
    ·have Q0:ys≠[]->oo=0:=fun h=>by
      rcases Cv with Cv|Cv
      ·have:=List.length_pos_iff.2 h;omega
      ·simpa using Cv
     by_cases hy0:ys=[]
     ·subst hy0
      have Gk:=S.rename hg c1 hB hn
      refine⟨_,w,j7 ι id B,.inl (fR ho (by rw[ex,ey];exact oP ht hi _ _ _ h1 _ c)),⟨Below.refl _ _,fun _ _=>rfl,fun _ h=>h,fK hn,fun _ h=>.inl h⟩,?_,?_,fun _ h=>fX h⟩
      ·have:(⟨true,m+1,r.rows++[]⟩:Row)=r:=by cases r;simp_all
       rw[this];exact Gk
      ·simp only[List.length_nil,Nat.add_zero]
       exact .own _ _ _ _ _ B (er _ _ _) hk h1 Cv h3 h4
     have ho0:=Q0 hy0
     subst ho0
     have sI:len*i.size+news.length<=cur.size:=by
      rw[jt,q1,hC,<-Nat.add_mul]
      refine Nat.le_trans ?_ h3
      rw[Iv,Nat.zero_add]
      exact Nat.mul_le_mul_right _ fP
     have gr:=xn (ty:=o.type) ht hi B.b len cap cur hblk ⟨yb,yo,none⟩ ys.length c news (by rw[jt];exact q1) (fun j v hj=>by rw[jZ];exact q2 j v hj) q4 fP sI
     have mK:cur.toList.length=cur.size:=Array.length_toList
     simp only[jt]at gr sI
     obtain⟨P1,P2⟩:=S.put (r':=⟨true,m+1,r.rows++ys⟩) hg c1 hB hblk (cur':=(cur.toList.take (len*(m+1))++news++cur.toList.drop (len*(m+1)+news.length)).toArray) (by simp only[List.size_toArray,List.length_append,List.length_take,List.length_drop,mK];omega) rfl c2.symm
      (by dsimp only;rw[List.length_append,<-c3,<-Iv];refine Nat.le_trans (Nat.mul_le_mul_right _ fP) (Nat.le_trans (by simp) h3)) zq Mz (fun k j cs b2 hk hj=>by
       simp only[List.getElem?_toArray]
       have gG:j<m+1:=by rw[<-zq cs (List.mem_of_getElem? hk)];exact(List.getElem?_eq_some_iff.1 hj).1
       rw[c2]
       by_cases k8:k<r.rows.length
       ·rw[List.getElem?_append_left k8]at hk
        have h2:k*(m+1)+j<len*(m+1):=jH (by omega) gG
        rw[List.append_assoc,List.getElem?_append_left (by simp only[List.length_take,mK];omega),List.getElem?_take,if_pos h2]
        have:=vh k j cs b2 hk hj
        rw[c2]at this;simpa using this
       ·rw[List.getElem?_append_right (by omega)]at hk
        have sJ:=(List.getElem?_eq_some_iff.1 hk).1
        have qo:len*(m+1)<=k*(m+1):=Nat.mul_le_mul_right _ (by omega)
        have qq:k*(m+1)+j-len*(m+1)=(k-r.rows.length)*(m+1)+j:=by
         rw[<-c3,Nat.sub_mul];omega
        obtain⟨u,hu,xg⟩:=q3.2 _ _ (flat_get hl hk hj)
        refine⟨u,?_,xg⟩
        have E6:news[(k-r.rows.length)*(m+1)+j]? =some u:=by simpa using hu
        have dP:=(List.getElem?_eq_some_iff.1 E6).1
        rw[List.append_assoc,List.getElem?_append_right (by simp only[List.length_take,mK];omega),List.getElem?_append_left (by simp only[List.length_take,mK];omega)]
        rw[<-E6]
        congr 1
        simp only[List.length_take,mK]
        omega)
     have dQ:bI (bW (bI g i0 ⟨true,m+1,r.rows++ys⟩) i0) id ⟨true,m+1,r.rows++ys⟩=bI (bW g i0) id ⟨true,m+1,r.rows++ys⟩:=by
      funext q;simp only[bI,bW]
      by_cases h:q=id<;>by_cases h':q=i0<;>simp[h,h']
     have Gk:=P1.rename (i:=i0) (id:=id) (r:=⟨true,m+1,r.rows++ys⟩) (by simp[bI]) rfl hB hn
     rw[dQ]at Gk
     refine⟨_,_,_,.inl (fR ho (by rw[ex,ey];exact gr)),P2.trans ⟨Below.refl _ _,fun _ _=>rfl,fun _ h=>h,fK hn,fun _ h=>.inl h⟩,Gk,?_,fun _ h=>fX h⟩
     exact .own _ _ _ _ _ B (er _ _ _) hk fP (.inr (by simp)) h3 h4
    ·
     have holds:∃ua:List Value,ua.length=len*(m+1)/\(∀j v,ua[j]? =some v->w.cell? ⟨B.b,oo+j,none⟩=some v)/\fe P w D ι r.rows.flatten ua.toArray:=by
      obtain⟨A2,c2',e2,h2⟩:=rR (sz:=m+1) (u:=.slice (some ⟨B.b,oo,none⟩) len cap) S (.own i0 0 len oo cap B hB hk h1 Cv h3 h4) (ys:=r.rows) (by simp[bw,hg,c3]) (fun cs h=>by rw[<-c2];exact R.len cs h) R.flat
      rcases h2 with h2|⟨b2,o2,ua,rfl,p1,p2,p3,_⟩
      ·refine⟨[],by simp[c3,h2],fun j v h=>by simp at h,by rw[h2];exact⟨rfl,fun j a h=>by simp at h⟩⟩
      ·injection e2 with e2 _ _
       injection e2 with e2
       injection e2 with e21 e22 _
       subst e21;subst e22
       exact⟨ua,by rw[p1,c3],p2,p3⟩
     obtain⟨ua,p1,p2,p3⟩:=holds
     have gr:=run_append_grow (P:=P) w t o.type e i zv ht hi pR ⟨B.b,oo,none⟩ len cap ua (by rw[jt];exact p1) (fun j v hj=>by rw[jZ];exact p2 j v hj) ⟨yb,yo,none⟩ ys.length c news (by rw[jt];exact q1) (fun j v hj=>by rw[jZ];exact q2 j v hj) (by omega) (e63 _ c4) (growslice_fits (by omega) (fits _ c4))
     obtain⟨g1,g2⟩:=A8 w (len+ys.length) cap e c4
     have dt:(ua.toArray++news.toArray++Builtin.zeroCells zv.cells (grownCap w (len+ys.length) cap e-(len+ys.length))).size=grownCap w (len+ys.length) cap e*(m+1):=by
      rw[Array.size_append,Array.size_append,size_zeroCells,PX,jt]
      simp only[List.size_toArray,q1,p1]
      rw[<-Nat.add_mul,<-Nat.add_mul];congr 1;omega
     have S1:=(S.kill i0).alloc (id:=id) (w':=w.drew.alloc (.cells (ua.toArray++news.toArray++Builtin.zeroCells zv.cells (grownCap w (len+ys.length) cap e-(len+ys.length))) e)) (r:=⟨true,m+1,r.rows++ys⟩) rfl hn rfl (by dsimp only;rw[dt,List.length_append,<-c3];exact Nat.mul_le_mul_right _ g1) zq Mz
      (fun k j cs b2 hk hj=>by
       have Gg:=flat_get zq hk hj
       rw[List.flatten_append]at Gg
       have hol:ua.length=r.rows.flatten.length:=by have:=p3.1;simpa using this
       dsimp only
       by_cases dP:k*(m+1)+j<r.rows.flatten.length
       ·rw[List.getElem?_append_left dP]at Gg
        obtain⟨u,hu,xg⟩:=p3.2 _ _ Gg
        refine⟨u,?_,xg⟩
        rw[Array.getElem?_append_left (by simp;omega),Array.getElem?_append_left (by simp;omega)];exact hu
       ·rw[List.getElem?_append_right (by omega)]at Gg
        obtain⟨u,hu,xg⟩:=q3.2 _ _ Gg
        refine⟨u,?_,xg⟩
        have Be:=(Array.getElem?_eq_some_iff.1 hu).1
        simp only[List.size_toArray]at Be
        rw[Array.getElem?_append_left (by simp;omega),Array.getElem?_append_right (by simp;omega)]
        simp only[List.size_toArray,hol];exact hu)
     have dH:=Cf (T:=e) S (ua.toArray++news.toArray++Builtin.zeroCells zv.cells (grownCap w (len+ys.length) cap e-(len+ys.length))) hn ⟨w.heap.size,m+1,(ua.toArray++news.toArray++Builtin.zeroCells zv.cells (grownCap w (len+ys.length) cap e-(len+ys.length))).size,none⟩
     refine⟨_,_,_,.inl (fR ho (by rw[ex,ey];exact gr)),dH,S1,?_,fun _ h=>fX h⟩
     refine .own _ _ _ _ _ _ (er _ _ _) rfl g1 (.inr (by simp)) ?_ g2
     dsimp only;rw[dt];simp
  ·simp at hv
 ·simp at hv
theorem kW {x:Operand} {t:TypeId} {u:Value} (ho:o.op=.call {callee:=.builtin .clear,args:= #[x],argTypes:= #[t]}) (h:(Builtin.clear_ #[t] o.type #[a.eval x]).run P w=.ok u w'):(execOp a.eval o).run P w=.ok (.value u) w':=by
 simp only[execOp,ho,resolve,Sem.run_bind,Sem.run_pure,Result.andThen_ok,invoke,builtin]
 simp only[List.map_toArray,List.map_cons,List.map_nil]
 rw[h];rfl
theorem KL {x:Operand} {x':O} {t e:TypeId} {m:Nat} {z:List K} {g':Rows} (S:gm P hs D ι g w) (E:cj P w D ι env a) (ho:o.op=.call {callee:=.builtin .clear,args:= #[x],argTypes:= #[t]})
  (ht:P.underlying t=some (.slice e)) (fb:dW P e=some (m+1)) (hz:jz P e=some z) (hx:cO P x=some x') (hv:bL g z (cL env x')=some g'):CF P hs a o w D ι id .undef g':=by
 have rx:=di E hx
 obtain⟨it,zv,hi,pR,PX,hm,E9⟩:=jM hz
 have jt:it.size=m+1:=by simpa[dW,hi]using fb
 unfold bL at hv
 split at hv
 ·rename_i hb
  rw[hb]at rx
  simp at hv;subst hv
  refine⟨undef,w,ι,.inl (kW ho (by rw[iM rx];simp only[Builtin.clear_,Sem.run_bind];simp[run_underlying ht,undef])),Step.refl _ _ _ _,S,dd.undef,fun _ _=>rfl⟩
 ·rename_i i off len hb
  rw[hb]at rx
  simp only[Option.bind_eq_some_iff]at hv
  obtain⟨r,hg,hv⟩:=hv
  split at hv
  ·rename_i hc
   obtain⟨c1,c2,c3⟩:=hc
   simp only[Option.some.injEq]at hv;subst hv
   obtain⟨oo,cap,B,ex,hB,h1,h2,h3,h4,hk⟩:=iN rx
   obtain⟨B',dC,R,jT,lN⟩:=S.row _ _ hg
   rw[hB]at dC;injection dC with dC;subst dC
   replace R:=R.row hk
   obtain⟨cur,T,hblk,hC,vh⟩:=R.cur
   by_cases h0:len=0
   ·subst h0
    have e1:({r with rows:=r.rows.take off++List.replicate 0 (z.map K.av)++r.rows.drop (off+0)}:Row)=r:=by cases r;simp
    rw[e1]
    have e2:bI g i r=g:=by
     funext q;unfold bI;split
     ·rename_i h;rw[h,hg]
     ·rfl
    rw[e2]
    refine⟨undef,w,ι,.inl (kW ho (by rw[ex];simp only[Builtin.clear_,Sem.run_bind];simp[run_underlying ht,undef])),Step.refl _ _ _ _,S,dd.undef,fun _ _=>rfl⟩
   ·have CA:oo=off*B.sz:=by rcases h2 with h2|h2<;>omega
    have Iv:B.sz=m+1:=by rw[R.sz,c2,E9,jt]
    have xZ:r.sz=m+1:=by rw[<-R.sz,Iv]
    have Rh:zv.cells.size=m+1:=by rw[PX,jt]
    have wU:(Builtin.zeroCells zv.cells len).toList.length=len*(m+1):=by rw[Array.length_toList,size_zeroCells,Rh]
    have Rg:∀k,k<len*(m+1)->∃c,z[k % z.length]? =some c/\(Builtin.zeroCells zv.cells len).toList[k]? =some c.val:=fun k hk=>by
     obtain⟨c,pE,Dj⟩:=oW (n:=len*zv.cells.size) hm (by rw[E9,jt];omega) k (by rw[Rh];exact hk)
     exact⟨c,pE,by rw[Array.getElem?_toList];exact Dj⟩
    have hbound:(off+len)*(m+1)<=r.rows.length*(m+1):=Nat.mul_le_mul_right _ c3
    have Bd:=R.fits
    rw[xZ]at Bd
    have TY:(off+len)*(m+1)=off*(m+1)+len*(m+1):=Nat.add_mul _ _ _
    have dH:=run_storeCells_at P B.b oo T (Builtin.zeroCells zv.cells len).toList 0 cur w hblk (by rw[wU,hC,CA,Iv];omega) (by
     intro v hv
     obtain⟨k,hk,rfl⟩:=List.getElem_of_mem hv
     obtain⟨c,_,Dj⟩:=Rg k (by rw[<-wU];exact hk)
     rw[List.getElem?_eq_getElem hk]at Dj
     injection Dj with Dj
     rw[Dj];cases c<;>rfl)
    simp only[Nat.add_zero]at dH
    have mK:cur.toList.length=cur.size:=Array.length_toList
    obtain⟨P1,P2⟩:=S.put (r':={r with rows:=r.rows.take off++List.replicate len (z.map K.av)++r.rows.drop (off+len)}) hg c1 hB hblk (cur':=(cur.toList.take oo++(Builtin.zeroCells zv.cells len).toList++cur.toList.drop (oo+(Builtin.zeroCells zv.cells len).toList.length)).toArray)
     (by simp only[List.size_toArray,List.length_append,List.length_take,List.length_drop,mK,wU];rw[CA,Iv];omega) c1 rfl (by
      have:(r.rows.take off++List.replicate len (z.map K.av)++r.rows.drop (off+len)).length=r.rows.length:=by simp;omega
      dsimp only;rw[this];exact R.fits) (fun cs dt=>by
      rcases List.mem_append.1 dt with h|h
      ·rcases List.mem_append.1 h with h|h
       ·exact R.len cs (List.mem_of_mem_take h)
       ·rw[List.eq_of_mem_replicate h];simp[c2]
      ·exact R.len cs (List.mem_of_mem_drop h)) (fun cs dt b hb=>by
      rcases List.mem_append.1 dt with h|h
      ·rcases List.mem_append.1 h with h|h
       ·exact R.flat cs (List.mem_of_mem_take h) b hb
       ·rw[List.eq_of_mem_replicate h]at hb
        obtain⟨c,_,rfl⟩:=List.mem_map.1 hb;exact c.mz
      ·exact R.flat cs (List.mem_of_mem_drop h) b hb) (fun k j cs b hk hj=>by
      simp only[List.getElem?_toArray]
      rw[xZ]
      rw[CA,Iv,wU]
      by_cases qN:k<off
      ·rw[List.append_assoc,List.getElem?_append_left (by simp;omega),List.getElem?_take,if_pos qN]at hk
       have gG:j<m+1:=by rw[<-xZ,<-R.len cs (List.mem_of_getElem? hk)];exact(List.getElem?_eq_some_iff.1 hj).1
       have h2:=jH qN gG
       rw[List.append_assoc,List.getElem?_append_left (by simp only[List.length_take,mK];omega),List.getElem?_take,if_pos h2]
       have:=vh k j cs b hk hj
       rw[xZ]at this;simpa using this
      ·by_cases sJ:k<off+len
       ·rw[List.append_assoc,List.getElem?_append_right (by simp;omega),List.getElem?_append_left (by simp;omega)]at hk
        have gO:=List.eq_of_mem_replicate (List.mem_of_getElem? hk)
        subst gO
        simp only[List.getElem?_map,Option.map_eq_some_iff]at hj
        obtain⟨q,hq,rfl⟩:=hj
        have gG:=(List.getElem?_eq_some_iff.1 hq).1
        rw[E9,jt]at gG
        have qo:off*(m+1)<=k*(m+1):=Nat.mul_le_mul_right _ (by omega)
        have qq:k*(m+1)+j-off*(m+1)=(k-off)*(m+1)+j:=by rw[Nat.sub_mul];omega
        have Be:(k-off)*(m+1)+j<len*(m+1):=jH (by omega) gG
        rw[List.append_assoc,List.getElem?_append_right (by simp only[List.length_take,mK];omega),List.getElem?_append_left (by simp only[List.length_take,mK,wU];omega)]
        obtain⟨c,pE,Dj⟩:=Rg _ Be
        rw[E9,jt,Nat.mul_comm (k-off),Nat.mul_add_mod,Nat.mod_eq_of_lt gG,hq]at pE
        injection pE with pE;subst pE
        refine⟨q.val,?_,wh q⟩
        rw[<-Dj]
        congr 1
        simp only[List.length_take,mK];omega
       ·rw[List.getElem?_append_right (by simp;omega)]at hk
        simp only[List.length_append,List.length_take,List.length_replicate,List.getElem?_drop]at hk
        rw[show off+len+(k-(min off r.rows.length+len))=k by omega]at hk
        have k8:=(List.getElem?_eq_some_iff.1 hk).1
        have qo:(off+len)*(m+1)<=k*(m+1):=Nat.mul_le_mul_right _ (by omega)
        rw[List.getElem?_append_right (by simp only[List.length_append,List.length_take,mK,wU];omega)]
        simp only[List.length_append,List.length_take,mK,wU,List.getElem?_drop]
        rw[show off*(m+1)+len*(m+1)+(k*(m+1)+j-(min (off*(m+1)) cur.size+len*(m+1)))=k*(m+1)+j by omega]
        have:=vh k j cs b hk hj
        rw[xZ]at this;simpa using this)
    refine⟨undef,_,ι,.inl (kW ho ?_),P2,P1,dd.undef,fun _ _=>rfl⟩
    rw[ex]
    cases len with
    |zero=>exact(h0 rfl).elim
    |succ len=>
     simp only[Builtin.clear_,Sem.run_bind]
     simp[run_underlying ht,zeroValue,typeInfo,hi,pR,dH,undef]
  ·simp at hv
 ·simp at hv
theorem G0 {dT sT ty e:TypeId} {it:TypeInfo} (hu:P.underlying dT=some (.slice e)) (hi:P.info? e=some it) (A B:Option Addr) (rU Eb FW Nz:Nat) (h0:Nat.min rU FW=0):
  (Builtin.copy_ #[dT,sT] ty #[.slice A FW Nz,.slice B rU Eb]).run P w=.ok (goInt 0) w:=by
 cases A<;>cases B<;>simp[Builtin.copy_,run_underlying hu,Builtin.lenOf,Builtin.firstCells,sizeOf,typeInfo,hi,h0,storeCells,loadCells,loadCellsFrom]
theorem G1 {dT sT ty e:TypeId} {it:TypeInfo} (hu:P.underlying dT=some (.slice e)) (hi:P.info? e=some it) (A B:Addr) (rU Eb FW Nz:Nat) (cs:List Value) (hn:cs.length=Nat.min rU FW*it.size) (hl:(loadCells B cs.length).run P w=.ok cs.toArray w) (hs:(storeCells A cs).run P w=.ok () w'):
  (Builtin.copy_ #[dT,sT] ty #[.slice (some A) FW Nz,.slice (some B) rU Eb]).run P w=.ok (goInt (Nat.min rU FW)) w':=by
 simp[Builtin.copy_,run_underlying hu,Builtin.lenOf,Builtin.firstCells,sizeOf,typeInfo,hi,<-hn,hl,hs]
theorem pU {x y:Operand} {t t2:TypeId} {u:Value} (ho:o.op=.call {callee:=.builtin .copy,args:= #[x,y],argTypes:= #[t,t2]}) (h:(Builtin.copy_ #[t,t2] o.type #[a.eval x,a.eval y]).run P w=.ok u w'):(execOp a.eval o).run P w=.ok (.value u) w':=by
 simp only[execOp,ho,resolve,Sem.run_bind,Sem.run_pure,Result.andThen_ok,invoke,builtin]
 simp only[List.map_toArray,List.map_cons,List.map_nil]
 rw[h];rfl
theorem NA {x y:Operand} {x' y':O} {t t2 e:TypeId} {m:Nat} {ys:List (List AV)} {v:AV} {g':Rows} (S:gm P hs D ι g w) (E:cj P w D ι env a) (ho:o.op=.call {callee:=.builtin .copy,args:= #[x,y],argTypes:= #[t,t2]})
  (ht:P.underlying t=some (.slice e)) (fb:dW P e=some (m+1)) (hx:cO P x=some x') (hy:cO P y=some y') (CD:bw g (cL env y')=some ys) (hv:Fx g (m+1) (cL env x') ys=some (v,g')):CF P hs a o w D ι id v g':=by
 have rx:=di E hx
 have ry:=di E hy
 obtain⟨it,hi,jt⟩:∃it,P.info? e=some it/\it.size=m+1:=by
  cases hq:P.info? e with
  |none=>simp[dW,hq]at fb
  |some it=>exact⟨it,rfl,by simpa[dW,hq]using fb⟩
 unfold Fx at hv
 split at hv
 ·rename_i i off len hb
  rw[hb]at rx
  simp only[Option.bind_eq_some_iff]at hv
  obtain⟨r,hg,hv⟩:=hv
  split at hv
  ·rename_i hc
   obtain⟨c1,c2,c3,c4⟩:=hc
   simp only[Option.some.injEq,Prod.mk.injEq]at hv
   obtain⟨rfl,rfl⟩:=hv
   rw[List.all_eq_true]at c4
   have hl:∀c∈ys,c.length=m+1:=fun c hc=>by have:=c4 c hc;simp at this;exact this.1
   have hf:∀c∈ys,∀b∈c,b.cell=true:=fun c hc b hb=>by have:=c4 c hc;simp at this;exact this.2 b hb
   obtain⟨oo,cap,B,ex,hB,h1,h2,h3,h4,hk⟩:=iN rx
   obtain⟨B',dC,R,jT,lN⟩:=S.row _ _ hg
   rw[hB]at dC;injection dC with dC;subst dC
   replace R:=R.row hk
   obtain⟨cur,T,hblk,hC,vh⟩:=R.cur
   obtain⟨A,sc,hu,hA⟩:=rR S ry CD hl hf
   by_cases h0:min ys.length len=0
   ·rw[h0]
    have e1:({r with rows:=r.rows.take off++ys.take 0++r.rows.drop (off+0)}:Row)=r:=by cases r;simp
    rw[e1]
    have e2:bI g i r=g:=by
     funext q;unfold bI;split
     ·rename_i h;rw[h,hg]
     ·rfl
    rw[e2]
    refine⟨goInt 0,w,ι,.inl (pU ho (by rw[ex,hu];exact G0 ht hi _ _ _ _ _ _ h0)),Step.refl _ _ _ _,S,.eO _ _ (.int _ _),fun _ _=>rfl⟩
   ·rcases hA with rfl|⟨b,o2,news,rfl,xW,hsrc,hR,h1c⟩
    ·simp at h0
    have QT:Nat.min ys.length len=min ys.length len:=rfl
    have hky:min ys.length len<=ys.length:=Nat.min_le_left _ _
    have k8:min ys.length len<=len:=Nat.min_le_right _ _
    generalize Ue:min ys.length len=kk at *
    have hlen0:len≠0:=by omega
    have CA:oo=off*B.sz:=by rcases h2 with h2|h2<;>omega
    have Iv:B.sz=m+1:=by rw[R.sz,c2]
    have xZ:r.sz=m+1:=c2
    have Sr:kk*(m+1)<=ys.length*(m+1):=Nat.mul_le_mul_right _ hky
    have wU:(news.take (kk*(m+1))).length=kk*(m+1):=by rw[List.length_take,xW];omega
    have hbound:(off+kk)*(m+1)<=r.rows.length*(m+1):=Nat.mul_le_mul_right _ (by omega)
    have Bd:=R.fits
    rw[xZ]at Bd
    have TY:(off+kk)*(m+1)=off*(m+1)+kk*(m+1):=Nat.add_mul _ _ _
    have dH:=run_storeCells_at P B.b oo T (news.take (kk*(m+1))) 0 cur w hblk (by rw[wU,hC,CA,Iv];omega) (fun v hv=>h1c v (List.mem_of_mem_take hv))
    have Sv:=run_loadCells_list (P:=P) w ⟨b,o2,none⟩ (news.take (kk*(m+1))) (fun j v hj=>by
     rw[List.getElem?_take]at hj
     split at hj
     ·have:=hsrc j v hj
      cases j with
      |zero=>simpa[Addr.add]using this
      |succ j=>simpa[Addr.add]using this
     ·cases hj)
    simp only[Nat.add_zero]at dH
    have mK:cur.toList.length=cur.size:=Array.length_toList
    have Kq:(ys.take kk).length=kk:=by rw[List.length_take];omega
    obtain⟨P1,P2⟩:=S.put (r':={r with rows:=r.rows.take off++ys.take kk++r.rows.drop (off+kk)}) hg c1 hB hblk (cur':=(cur.toList.take oo++news.take (kk*(m+1))++cur.toList.drop (oo+(news.take (kk*(m+1))).length)).toArray)
     (by simp only[List.size_toArray,List.length_append,List.length_drop,mK,wU];rw[List.length_take,mK,CA,Iv];omega) c1 rfl (by
      have:(r.rows.take off++ys.take kk++r.rows.drop (off+kk)).length=r.rows.length:=by simp;omega
      dsimp only;rw[this];exact R.fits) (fun cs dt=>by
      rcases List.mem_append.1 dt with h|h
      ·rcases List.mem_append.1 h with h|h
       ·exact R.len cs (List.mem_of_mem_take h)
       ·rw[hl cs (List.mem_of_mem_take h)];exact c2.symm
      ·exact R.len cs (List.mem_of_mem_drop h)) (fun cs dt b hb=>by
      rcases List.mem_append.1 dt with h|h
      ·rcases List.mem_append.1 h with h|h
       ·exact R.flat cs (List.mem_of_mem_take h) b hb
       ·exact hf cs (List.mem_of_mem_take h) b hb
      ·exact R.flat cs (List.mem_of_mem_drop h) b hb) (fun k j cs b hk hj=>by
      simp only[List.getElem?_toArray]
      rw[xZ]
      rw[CA,Iv,wU]
      by_cases qN:k<off
      ·rw[List.append_assoc,List.getElem?_append_left (by simp;omega),List.getElem?_take,if_pos qN]at hk
       have gG:j<m+1:=by rw[<-xZ,<-R.len cs (List.mem_of_getElem? hk)];exact(List.getElem?_eq_some_iff.1 hj).1
       have h2:=jH qN gG
       rw[List.append_assoc,List.getElem?_append_left (by simp only[List.length_take,mK];omega),List.getElem?_take,if_pos h2]
       have:=vh k j cs b hk hj
       rw[xZ]at this;simpa using this
      ·by_cases sJ:k<off+kk
       ·rw[List.append_assoc,List.getElem?_append_right (by simp;omega),List.getElem?_append_left (by simp;omega)]at hk
        simp only[List.length_take]at hk
        rw[show k-min off r.rows.length=k-off by omega,List.getElem?_take,if_pos (by omega)]at hk
        have gG:j<m+1:=by rw[<-hl cs (List.mem_of_getElem? hk)];exact(List.getElem?_eq_some_iff.1 hj).1
        have qo:off*(m+1)<=k*(m+1):=Nat.mul_le_mul_right _ (by omega)
        have qq:k*(m+1)+j-off*(m+1)=(k-off)*(m+1)+j:=by rw[Nat.sub_mul];omega
        have Be:(k-off)*(m+1)+j<kk*(m+1):=jH (by omega) gG
        rw[List.append_assoc,List.getElem?_append_right (by simp only[List.length_take,mK];omega),List.getElem?_append_left (by rw[wU];simp only[List.length_take,mK];omega)]
        obtain⟨u,Q8,hu2⟩:=hR.2 ((k-off)*(m+1)+j) b (flat_get hl hk hj)
        refine⟨u,?_,hu2⟩
        rw[List.getElem?_take]
        simp only[List.length_take,mK]
        rw[show k*(m+1)+j-min (off*(m+1)) cur.size=(k-off)*(m+1)+j by omega,if_pos Be]
        simpa using Q8
       ·rw[List.getElem?_append_right (by simp;omega)]at hk
        simp only[List.length_append,List.length_take,List.getElem?_drop]at hk
        rw[show off+kk+(k-(min off r.rows.length+min kk ys.length))=k by omega]at hk
        have k8:=(List.getElem?_eq_some_iff.1 hk).1
        have qo:(off+kk)*(m+1)<=k*(m+1):=Nat.mul_le_mul_right _ (by omega)
        rw[List.getElem?_append_right (by rw[List.length_append,wU];simp only[List.length_take,mK];omega)]
        rw[List.getElem?_drop,List.length_append,wU]
        simp only[List.length_take,mK]
        rw[show off*(m+1)+kk*(m+1)+(k*(m+1)+j-(min (off*(m+1)) cur.size+kk*(m+1)))=k*(m+1)+j by omega]
        have:=vh k j cs b hk hj
        rw[xZ]at this;simpa using this)
    refine⟨goInt kk,_,ι,.inl (pU ho ?_),P2,P1,.eO _ _ (.int _ _),fun _ _=>rfl⟩
    rw[ex,hu]
    have:=G1 (w:=w) (sT:=t2) (ty:=o.type) ht hi ⟨B.b,oo,none⟩ ⟨b,o2,none⟩ ys.length sc len cap _ (by rw[wU,QT,jt]) Sv dH
    rw[QT]at this
    exact this
  ·simp at hv
 ·simp at hv
end
end Go.Proofs.YtgoelphibofcmaaGreat.V

namespace Go.Proofs.YtgoelphibofcmaaGreat.V
open Go.RowKit
variable {P:Program} {w w':World} {D D' D2:Nat->Prop} {ι ι' ι2:Names}
section
variable {g:Rows} {hs:Nat}
theorem gq:∀{n:Nat} {l r:List AV},cK g n l=some r->r.length=l.length/\∀(j:Nat) (b:AV),r[j]? =some b->∃a,l[j]? =some a/\fz g n a=some b
 |n,[],r,h=>by
  rw[cK]at h;simp at h;subst h;simp
 |n,a::l,r,h=>by
  rw[cK]at h
  split at h
  ·rename_i b hb
   simp only[Option.map_eq_some_iff]at h
   obtain⟨r',hr,rfl⟩:=h
   obtain⟨h1,h2⟩:=gq hr
   refine⟨by simp[h1],fun j c hj=>?_⟩
   cases j with
   |zero=>simp at hj;subst hj;exact⟨a,rfl,hb⟩
   |succ j=>simp at hj ⊢;exact h2 j c hj
  ·simp at h
theorem vd:∀{n:Nat} {l r:List (List AV)},dY g n l=some r->r.length=l.length/\∀(j:Nat) (b:List AV),r[j]? =some b->∃a,l[j]? =some a/\cK g n a=some b
 |n,[],r,h=>by
  rw[dY]at h;simp at h;subst h;simp
 |n,a::l,r,h=>by
  rw[dY]at h
  split at h
  ·rename_i b hb
   simp only[Option.map_eq_some_iff]at h
   obtain⟨r',hr,rfl⟩:=h
   obtain⟨h1,h2⟩:=vd hr
   refine⟨by simp[h1],fun j c hj=>?_⟩
   cases j with
   |zero=>simp at hj;subst hj;exact⟨a,rfl,hb⟩
   |succ j=>simp at hj ⊢;exact h2 j c hj
  ·simp at h
theorem rq (hD:∀b,D b->D2 b) (xz:∀id row,g id=some row->row.w=true->∃B,ι id=some B/\gP P w D ι B row/\D2 B.b):∀(n:Nat) (a:AV) (u:Value) (r:AV),dd P w D ι a u->fz g n a=some r->dd P w D2 ι2 r u/\(a.cell=true->jw P w D2 r u/\r.cell=true):=by
 intro n
 induction n with
 |zero=>intro a u r _ h;rw[fz]at h;simp at h
 |succ n ih=>
  intro a u r hr h
  have both:∀{r:AV},jw P w D2 r u->r.cell=true->dd P w D2 ι2 r u/\(a.cell=true->jw P w D2 r u/\r.cell=true):=fun h1 h2=>⟨.eO _ _ h1,fun _=>⟨h1,h2⟩⟩
  cases a with
  |map id m=>rw[fz]at h;cases h
  |rf id=>rw[fz]at h;cases h
  |own id off len=>
   rw[fz]at h
   split at h
   ·rename_i row hg
    split at h
    ·rename_i hw
     split at h
     ·rename_i hle
      simp only[Option.map_eq_some_iff]at h
      obtain⟨rows,rF,rfl⟩:=h
      obtain⟨B,hB,R,NQ⟩:=xz id row hg hw
      obtain⟨o,cap,B',rfl,dC,h1,h2,h3,h4,hk⟩:=iN hr
      rw[hB]at dC;injection dC with dC;subst dC
      replace R:=R.row hk
      obtain⟨l1,l2⟩:=vd rF
      have hlen:rows.length=len:=by rw[l1];simp;omega
      by_cases h0:rows=[]
      ·subst h0
       simp at hlen;subst hlen
       exact both (.Am _ _ h4) rfl
      ·have hlp:0<len:=by rw[<-hlen];exact List.length_pos_iff.2 h0
       have ho:o=off*B.sz:=by rcases h2 with h2|h2<;>omega
       have src:∀i cs,rows[i]? =some cs->∃c0,row.rows[off+i]? =some c0/\cK g n c0=some cs:=fun i cs hi=>by
        obtain⟨c0,jA,hf⟩:=l2 i cs hi
        rw[List.getElem?_take]at jA
        split at jA
        ·rw[List.getElem?_drop]at jA;exact⟨c0,jA,hf⟩
        ·simp at jA
       have cell:∀i j,i<len->j<row.sz->∃c0 a0 v,row.rows[off+i]? =some c0/\c0[j]? =some a0/\w.cell? ⟨B.b,o+(i*row.sz+j),none⟩=some v/\dd P w D ι a0 v:=fun i j hi hj=>by
        have qM:off+i<row.rows.length:=by omega
        have e1:=List.getElem?_eq_getElem qM
        have Kj:j<row.rows[off+i].length:=by rw[R.len _ (List.getElem_mem qM)];exact hj
        obtain⟨v,hv,lu⟩:=R.at_ _ _ _ _ e1 (List.getElem?_eq_getElem Kj)
        refine⟨_,_,v,e1,List.getElem?_eq_getElem Kj,?_,lu⟩
        rw[ho,R.sz,<-hv]
        congr 2
        rw[Nat.add_mul];omega
       refine both (.sl rows B.b o len cap row.sz (fun i j=>(w.cell? ⟨B.b,o+(i*row.sz+j),none⟩).getD undef) hlen h1 h4 NQ (fun cs dt=>?_) (fun cs dt b hb=>?_) (fun i j hi hj=>?_) (fun i j cs b hi hj=>?_)) rfl
       ·obtain⟨i,hi,rfl⟩:=List.getElem_of_mem dt
        obtain⟨c0,jA,hf⟩:=src i _ (List.getElem?_eq_getElem hi)
        rw[(gq hf).1];exact R.len c0 (List.mem_of_getElem? jA)
       ·obtain⟨i,hi,rfl⟩:=List.getElem_of_mem dt
        obtain⟨c0,jA,hf⟩:=src i _ (List.getElem?_eq_getElem hi)
        obtain⟨j,hj,rfl⟩:=List.getElem_of_mem hb
        obtain⟨a0,k7,ID⟩:=(gq hf).2 j _ (List.getElem?_eq_getElem hj)
        obtain⟨v,_,lu⟩:=R.at_ _ _ _ _ jA k7
        exact((ih _ _ _ lu ID).2 (R.flat c0 (List.mem_of_getElem? jA) a0 (List.mem_of_getElem? k7))).2
       ·obtain⟨c0,a0,v,_,_,hv,_⟩:=cell i j hi hj
        simp only[hv,Option.getD_some]
       ·obtain⟨c0,jA,hf⟩:=src i cs hi
        obtain⟨a0,k7,ID⟩:=(gq hf).2 j b hj
        have nz:i<len:=by rw[<-hlen];exact(List.getElem?_eq_some_iff.1 hi).1
        have gG:j<row.sz:=by rw[<-R.len c0 (List.mem_of_getElem? jA)];exact(List.getElem?_eq_some_iff.1 k7).1
        obtain⟨c1,a1,v,e1,e2,hv,lu⟩:=cell i j nz gG
        rw[jA]at e1;injection e1 with e1;subst e1
        rw[k7]at e2;injection e2 with e2;subst e2
        simp only[hv,Option.getD_some]
        exact((ih _ _ _ lu ID).2 (R.flat c0 (List.mem_of_getElem? jA) a0 (List.mem_of_getElem? k7))).1
     ·simp at h
    ·simp at h
   ·simp at h
  |ptr id i off=>
   rw[fz]at h
   split at h
   ·rename_i row hg
    split at h
    ·rename_i hw
     split at h
     ·rename_i c0 jA
      simp only[Option.map_eq_some_iff]at h
      obtain⟨cs,dt,rfl⟩:=h
      obtain⟨B,hB,R,NQ⟩:=xz id row hg hw
      obtain⟨B',rfl,dC,hk⟩:=iO hr
      rw[hB]at dC;injection dC with dC;subst dC
      replace R:=R.row hk
      obtain⟨l1,l2⟩:=gq dt
      have at_:∀j b,cs[j]? =some b->∃a0 v,w.cell? ⟨B.b,i*B.sz+off+j,none⟩=some v/\dd P w D ι a0 v/\a0.cell=true/\fz g n a0=some b:=fun j b hj=>by
       obtain⟨a0,k7,hf⟩:=l2 j b hj
       rw[List.getElem?_drop]at k7
       obtain⟨v,hv,lu⟩:=R.at_ _ _ _ _ jA k7
       refine⟨a0,v,?_,lu,R.flat c0 (List.mem_of_getElem? jA) a0 (List.mem_of_getElem? k7),hf⟩
       rw[R.sz,Nat.add_assoc];exact hv
      refine both (.dj cs B.b _ (fun j=>(w.cell? ⟨B.b,i*B.sz+off+j,none⟩).getD undef) NQ (fun b hb=>?_) (fun j hj=>?_) (fun j b hj=>?_)) rfl
      ·obtain⟨j,hj,rfl⟩:=List.getElem_of_mem hb
       obtain⟨a0,v,_,lu,hc,hf⟩:=at_ j _ (List.getElem?_eq_getElem hj)
       exact((ih _ _ _ lu hf).2 hc).2
      ·obtain⟨a0,v,hv,_⟩:=at_ j _ (List.getElem?_eq_getElem hj)
       simp only[hv,Option.getD_some]
      ·obtain⟨a0,v,hv,lu,hc,hf⟩:=at_ j b hj
       simp only[hv,Option.getD_some]
       exact((ih _ _ _ lu hf).2 hc).1
     ·simp at h
    ·simp at h
   ·simp at h
  |agg cs=>
   rw[fz]at h
   simp only[Option.map_eq_some_iff]at h
   obtain⟨r',nL,rfl⟩:=h
   obtain⟨vs,f,rfl,h1,h2,h3,h4⟩:=il hr
   obtain⟨l1,l2⟩:=gq nL
   have hI:jw P w D2 (.agg r') (.agg vs):=.agg r' vs f (by rw[h1,l1]) (fun b hb=>by
    obtain⟨j,hj,rfl⟩:=List.getElem_of_mem hb
    obtain⟨a0,k7,hf⟩:=l2 j _ (List.getElem?_eq_getElem hj)
    exact((ih _ _ _ (h4 j a0 k7) hf).2 (h2 a0 (List.mem_of_getElem? k7))).2) (fun j hj=>h3 j (by rw[<-l1];exact hj)) (fun j b hj=>by
    obtain⟨a0,k7,hf⟩:=l2 j b hj
    exact((ih _ _ _ (h4 j a0 k7) hf).2 (h2 a0 (List.mem_of_getElem? k7))).1)
   exact⟨.eO _ _ hI,fun hc=>by simp[AV.cell]at hc⟩
  |iF cs=>
   rw[fz]at h
   simp only[Option.map_eq_some_iff]at h
   obtain⟨r',nL,rfl⟩:=h
   obtain⟨vs,f,rfl,h1,h3,h4⟩:=uv hr
   obtain⟨l1,l2⟩:=gq nL
   exact⟨.iF r' vs f (by rw[h1,l1]) (fun j hj=>h3 j (by rw[<-l1];exact hj)) (fun j b hj=>by
    obtain⟨a0,k7,hf⟩:=l2 j b hj
    exact(ih _ _ _ (h4 j a0 k7) hf).1),fun hc=>by simp[AV.cell]at hc⟩
  |fn f cH=>
   rw[fz]at h
   split at h
   ·rename_i dL
    simp only[Option.map_eq_some_iff]at h
    obtain⟨r',nL,rfl⟩:=h
    obtain⟨vs,q,rfl,h0,h1,h3,h4⟩:=wg hr
    obtain⟨l1,l2⟩:=gq nL
    exact both (.fn f r' vs q h0 (by rw[h1,l1]) (fun j hj=>h3 j (by rw[<-l1];exact hj)) (fun j b hj=>by
     obtain⟨a0,k7,hf⟩:=l2 j b hj
     exact((ih _ _ _ (h4 j a0 k7) hf).2 (List.all_eq_true.1 dL a0 (List.mem_of_getElem? k7))).1)) rfl
   ·simp at h
  |int k m=>rw[fz]at h<;>(try simp at h)<;>(try subst h)<;>(try(rw[dn hr];exact⟨.eO _ _ (.int _ _),fun _=>⟨.int _ _,rfl⟩⟩))<;>(try(intros;simp_all))
  |bool b=>rw[fz]at h<;>(try simp at h)<;>(try subst h)<;>(try(rw[e6 hr];exact⟨.eO _ _ (.bool _),fun _=>⟨.bool _,rfl⟩⟩))<;>(try(intros;simp_all))
  |str b=>rw[fz]at h<;>(try simp at h)<;>(try subst h)<;>(try(rw[fx hr];exact⟨.eO _ _ (.str _),fun _=>⟨.str _,rfl⟩⟩))<;>(try(intros;simp_all))
  |cr=>rw[fz]at h<;>(try simp at h)<;>(try subst h)<;>(try(rw[iM hr];exact⟨.eO _ _ .cr,fun _=>⟨.cr,rfl⟩⟩))<;>(try(intros;simp_all))
  |iS=>rw[fz]at h<;>(try simp at h)<;>(try subst h)<;>(try(rw[wi hr];exact⟨.eO _ _ .iS,fun _=>⟨.iS,rfl⟩⟩))<;>(try(intros;simp_all))
  |jc=>rw[fz]at h<;>(try simp at h)<;>(try subst h)<;>(try(rw[Cc hr];exact⟨.eO _ _ .jc,fun _=>⟨.jc,rfl⟩⟩))<;>(try(intros;simp_all))
  |tA f cH=>rw[fz]at h<;>(try simp at h)<;>(try(intros;simp_all))
  |gI=>rw[fz]at h<;>(try simp at h)<;>(try subst h)<;>(try(cases hr with|eO _ _ hr=>exact both (hr.frame (fun _ _=>rfl) hD) rfl))<;>(try(intros;simp_all))
  |sl rows=>rw[fz]at h<;>(try simp at h)<;>(try subst h)<;>(try(cases hr with|eO _ _ hr=>exact both (hr.frame (fun _ _=>rfl) hD) rfl))<;>(try(intros;simp_all))
  |dj cs=>rw[fz]at h<;>(try simp at h)<;>(try subst h)<;>(try(cases hr with|eO _ _ hr=>exact both (hr.frame (fun _ _=>rfl) hD) rfl))<;>(try(intros;simp_all))
theorem iQ:∀{n:Nat} {l r:List AV},dZ g n l=some r->r.length=l.length/\∀(j:Nat) (b:AV),r[j]? =some b->∃a,l[j]? =some a/\gi g n a=some b
 |n,[],r,h=>by
  rw[dZ]at h;simp at h;subst h;simp
 |n,a::l,r,h=>by
  rw[dZ]at h
  split at h
  ·rename_i b hb
   simp only[Option.map_eq_some_iff]at h
   obtain⟨r',hr,rfl⟩:=h
   obtain⟨h1,h2⟩:=iQ hr
   refine⟨by simp[h1],fun j c hj=>?_⟩
   cases j with
   |zero=>simp at hj;subst hj;exact⟨a,rfl,hb⟩
   |succ j=>simp at hj ⊢;exact h2 j c hj
  ·simp at h
theorem tj:∀{n:Nat} {l r:List (List AV)},gQ g n l=some r->r.length=l.length/\∀(j:Nat) (b:List AV),r[j]? =some b->∃a,l[j]? =some a/\dZ g n a=some b
 |n,[],r,h=>by
  rw[gQ]at h;simp at h;subst h;simp
 |n,a::l,r,h=>by
  rw[gQ]at h
  split at h
  ·rename_i b hb
   simp only[Option.map_eq_some_iff]at h
   obtain⟨r',hr,rfl⟩:=h
   obtain⟨h1,h2⟩:=tj hr
   refine⟨by simp[h1],fun j c hj=>?_⟩
   cases j with
   |zero=>simp at hj;subst hj;exact⟨a,rfl,hb⟩
   |succ j=>simp at hj ⊢;exact h2 j c hj
  ·simp at h
theorem F7 (xz:∀id row,g id=some row->row.w=true->∃B,ι id=some B/\gP P w D ι B row/\D2 B.b):∀(n:Nat) (a:AV) (u:Value) (r:AV),dd P w D ι a u->gi g n a=some r->dd P w D2 ι2 r u/\(a.cell=true->jw P w D2 r u/\r.cell=true):=by
 intro n
 induction n with
 |zero=>intro a u r _ h;rw[gi]at h;simp at h
 |succ n ih=>
  intro a u r hr h
  have both:∀{r:AV},jw P w D2 r u->r.cell=true->dd P w D2 ι2 r u/\(a.cell=true->jw P w D2 r u/\r.cell=true):=fun h1 h2=>⟨.eO _ _ h1,fun _=>⟨h1,h2⟩⟩
  cases a with
  |map id m=>rw[gi]at h<;>simp_all
  |rf id=>rw[gi]at h<;>simp_all
  |own id off len=>
   rw[gi]at h
   split at h
   ·rename_i row hg
    split at h
    ·rename_i hw
     split at h
     ·rename_i hle
      simp only[Option.map_eq_some_iff]at h
      obtain⟨rows,rF,rfl⟩:=h
      obtain⟨B,hB,R,NQ⟩:=xz id row hg hw
      obtain⟨o,cap,B',rfl,dC,h1,h2,h3,h4,hk⟩:=iN hr
      rw[hB]at dC;injection dC with dC;subst dC
      replace R:=R.row hk
      obtain⟨l1,l2⟩:=tj rF
      have hlen:rows.length=len:=by rw[l1];simp;omega
      by_cases h0:rows=[]
      ·subst h0
       simp at hlen;subst hlen
       exact both (.Am _ _ h4) rfl
      ·have hlp:0<len:=by rw[<-hlen];exact List.length_pos_iff.2 h0
       have ho:o=off*B.sz:=by rcases h2 with h2|h2<;>omega
       have src:∀i cs,rows[i]? =some cs->∃c0,row.rows[off+i]? =some c0/\dZ g n c0=some cs:=fun i cs hi=>by
        obtain⟨c0,jA,hf⟩:=l2 i cs hi
        rw[List.getElem?_take]at jA
        split at jA
        ·rw[List.getElem?_drop]at jA;exact⟨c0,jA,hf⟩
        ·simp at jA
       have cell:∀i j,i<len->j<row.sz->∃c0 a0 v,row.rows[off+i]? =some c0/\c0[j]? =some a0/\w.cell? ⟨B.b,o+(i*row.sz+j),none⟩=some v/\dd P w D ι a0 v:=fun i j hi hj=>by
        have qM:off+i<row.rows.length:=by omega
        have e1:=List.getElem?_eq_getElem qM
        have Kj:j<row.rows[off+i].length:=by rw[R.len _ (List.getElem_mem qM)];exact hj
        obtain⟨v,hv,lu⟩:=R.at_ _ _ _ _ e1 (List.getElem?_eq_getElem Kj)
        refine⟨_,_,v,e1,List.getElem?_eq_getElem Kj,?_,lu⟩
        rw[ho,R.sz,<-hv]
        congr 2
        rw[Nat.add_mul];omega
       refine both (.sl rows B.b o len cap row.sz (fun i j=>(w.cell? ⟨B.b,o+(i*row.sz+j),none⟩).getD undef) hlen h1 h4 NQ (fun cs dt=>?_) (fun cs dt b hb=>?_) (fun i j hi hj=>?_) (fun i j cs b hi hj=>?_)) rfl
       ·obtain⟨i,hi,rfl⟩:=List.getElem_of_mem dt
        obtain⟨c0,jA,hf⟩:=src i _ (List.getElem?_eq_getElem hi)
        rw[(iQ hf).1];exact R.len c0 (List.mem_of_getElem? jA)
       ·obtain⟨i,hi,rfl⟩:=List.getElem_of_mem dt
        obtain⟨c0,jA,hf⟩:=src i _ (List.getElem?_eq_getElem hi)
        obtain⟨j,hj,rfl⟩:=List.getElem_of_mem hb
        obtain⟨a0,k7,ID⟩:=(iQ hf).2 j _ (List.getElem?_eq_getElem hj)
        obtain⟨v,_,lu⟩:=R.at_ _ _ _ _ jA k7
        exact((ih _ _ _ lu ID).2 (R.flat c0 (List.mem_of_getElem? jA) a0 (List.mem_of_getElem? k7))).2
       ·obtain⟨c0,a0,v,_,_,hv,_⟩:=cell i j hi hj
        simp only[hv,Option.getD_some]
       ·obtain⟨c0,jA,hf⟩:=src i cs hi
        obtain⟨a0,k7,ID⟩:=(iQ hf).2 j b hj
        have nz:i<len:=by rw[<-hlen];exact(List.getElem?_eq_some_iff.1 hi).1
        have gG:j<row.sz:=by rw[<-R.len c0 (List.mem_of_getElem? jA)];exact(List.getElem?_eq_some_iff.1 k7).1
        obtain⟨c1,a1,v,e1,e2,hv,lu⟩:=cell i j nz gG
        rw[jA]at e1;injection e1 with e1;subst e1
        rw[k7]at e2;injection e2 with e2;subst e2
        simp only[hv,Option.getD_some]
        exact((ih _ _ _ lu ID).2 (R.flat c0 (List.mem_of_getElem? jA) a0 (List.mem_of_getElem? k7))).1
     ·simp at h
    ·simp at h
   ·simp at h
  |ptr id i off=>
   rw[gi]at h
   split at h
   ·rename_i row hg
    split at h
    ·rename_i hw
     split at h
     ·rename_i c0 jA
      simp only[Option.map_eq_some_iff]at h
      obtain⟨cs,dt,rfl⟩:=h
      obtain⟨B,hB,R,NQ⟩:=xz id row hg hw
      obtain⟨B',rfl,dC,hk⟩:=iO hr
      rw[hB]at dC;injection dC with dC;subst dC
      replace R:=R.row hk
      obtain⟨l1,l2⟩:=iQ dt
      have at_:∀j b,cs[j]? =some b->∃a0 v,w.cell? ⟨B.b,i*B.sz+off+j,none⟩=some v/\dd P w D ι a0 v/\a0.cell=true/\gi g n a0=some b:=fun j b hj=>by
       obtain⟨a0,k7,hf⟩:=l2 j b hj
       rw[List.getElem?_drop]at k7
       obtain⟨v,hv,lu⟩:=R.at_ _ _ _ _ jA k7
       refine⟨a0,v,?_,lu,R.flat c0 (List.mem_of_getElem? jA) a0 (List.mem_of_getElem? k7),hf⟩
       rw[R.sz,Nat.add_assoc];exact hv
      refine both (.dj cs B.b _ (fun j=>(w.cell? ⟨B.b,i*B.sz+off+j,none⟩).getD undef) NQ (fun b hb=>?_) (fun j hj=>?_) (fun j b hj=>?_)) rfl
      ·obtain⟨j,hj,rfl⟩:=List.getElem_of_mem hb
       obtain⟨a0,v,_,lu,hc,hf⟩:=at_ j _ (List.getElem?_eq_getElem hj)
       exact((ih _ _ _ lu hf).2 hc).2
      ·obtain⟨a0,v,hv,_⟩:=at_ j _ (List.getElem?_eq_getElem hj)
       simp only[hv,Option.getD_some]
      ·obtain⟨a0,v,hv,lu,hc,hf⟩:=at_ j b hj
       simp only[hv,Option.getD_some]
       exact((ih _ _ _ lu hf).2 hc).1
     ·simp at h
    ·simp at h
   ·simp at h
  |agg cs=>
   rw[gi]at h
   simp only[Option.map_eq_some_iff]at h
   obtain⟨r',nL,rfl⟩:=h
   obtain⟨vs,f,rfl,h1,h2,h3,h4⟩:=il hr
   obtain⟨l1,l2⟩:=iQ nL
   have hI:jw P w D2 (.agg r') (.agg vs):=.agg r' vs f (by rw[h1,l1]) (fun b hb=>by
    obtain⟨j,hj,rfl⟩:=List.getElem_of_mem hb
    obtain⟨a0,k7,hf⟩:=l2 j _ (List.getElem?_eq_getElem hj)
    exact((ih _ _ _ (h4 j a0 k7) hf).2 (h2 a0 (List.mem_of_getElem? k7))).2) (fun j hj=>h3 j (by rw[<-l1];exact hj)) (fun j b hj=>by
    obtain⟨a0,k7,hf⟩:=l2 j b hj
    exact((ih _ _ _ (h4 j a0 k7) hf).2 (h2 a0 (List.mem_of_getElem? k7))).1)
   exact⟨.eO _ _ hI,fun hc=>by simp[AV.cell]at hc⟩
  |iF cs=>
   rw[gi]at h
   simp only[Option.map_eq_some_iff]at h
   obtain⟨r',nL,rfl⟩:=h
   obtain⟨vs,f,rfl,h1,h3,h4⟩:=uv hr
   obtain⟨l1,l2⟩:=iQ nL
   exact⟨.iF r' vs f (by rw[h1,l1]) (fun j hj=>h3 j (by rw[<-l1];exact hj)) (fun j b hj=>by
    obtain⟨a0,k7,hf⟩:=l2 j b hj
    exact(ih _ _ _ (h4 j a0 k7) hf).1),fun hc=>by simp[AV.cell]at hc⟩
  |fn f cH=>rw[gi]at h<;>(try simp at h)<;>(try(intros;simp_all))
  |int k m=>rw[gi]at h<;>(try simp at h)<;>(try subst h)<;>(try(rw[dn hr];exact⟨.eO _ _ (.int _ _),fun _=>⟨.int _ _,rfl⟩⟩))<;>(try(intros;simp_all))
  |bool b=>rw[gi]at h<;>(try simp at h)<;>(try subst h)<;>(try(rw[e6 hr];exact⟨.eO _ _ (.bool _),fun _=>⟨.bool _,rfl⟩⟩))<;>(try(intros;simp_all))
  |str b=>rw[gi]at h<;>(try simp at h)<;>(try subst h)<;>(try(rw[fx hr];exact⟨.eO _ _ (.str _),fun _=>⟨.str _,rfl⟩⟩))<;>(try(intros;simp_all))
  |cr=>rw[gi]at h<;>(try simp at h)<;>(try subst h)<;>(try(rw[iM hr];exact⟨.eO _ _ .cr,fun _=>⟨.cr,rfl⟩⟩))<;>(try(intros;simp_all))
  |iS=>rw[gi]at h<;>(try simp at h)<;>(try subst h)<;>(try(rw[wi hr];exact⟨.eO _ _ .iS,fun _=>⟨.iS,rfl⟩⟩))<;>(try(intros;simp_all))
  |jc=>rw[gi]at h<;>(try simp at h)<;>(try subst h)<;>(try(rw[Cc hr];exact⟨.eO _ _ .jc,fun _=>⟨.jc,rfl⟩⟩))<;>(try(intros;simp_all))
  |tA f cH=>rw[gi]at h<;>(try simp at h)<;>(try(intros;simp_all))
  |gI=>rw[gi]at h<;>(try simp at h)<;>(try subst h)<;>(try(cases hr with|eO _ _ hr=>cases hr;exact both .gI rfl))<;>(try(intros;simp_all))
  |sl rows=>rw[gi]at h<;>(try simp at h)<;>(try(intros;simp_all))
  |dj cs=>rw[gi]at h<;>(try simp at h)<;>(try(intros;simp_all))
end
end Go.Proofs.YtgoelphibofcmaaGreat.V

namespace Go.Proofs.YtgoelphibofcmaaGreat.V
open Go.RowKit
variable {P:Program} {w w':World} {D D':Nat->Prop} {ι ι':Names}
section
variable {g:Rows} {hs:Nat} {env:Env} {a:Act} {o:Oper} {id:Id} {v:AV}
theorem gm.Hi (S:gm P hs D ι g w) {i:Id} {r r':Row} {B:sk} {ob:Obj} (hid:g i=some r) (hw:r.w=true) (hB:ι i=some B)
  (hR:(∀a v,dd P w D ι a v->dd P {w with heap:=w.heap.setIfInBounds B.b ob} D ι a v)->(w.heap.setIfInBounds B.b ob)[B.b]? =some ob->gP P {w with heap:=w.heap.setIfInBounds B.b ob} D ι B r'):
  gm P hs D ι (bI g i r') {w with heap:=w.heap.setIfInBounds B.b ob}/\Step hs D ι w D ι {w with heap:=w.heap.setIfInBounds B.b ob}:=by
 obtain⟨B0,wQ,R,jT,lN⟩:=S.row i r hid
 rw[hB]at wQ;injection wQ with wQ;subst wQ
 have other:∀b,b≠B.b->(w.heap.setIfInBounds B.b ob)[b]? =w.heap[b]? :=fun b hb=>by simp[Ne.symm hb]
 have hd:∀b,D b->(w.heap.setIfInBounds B.b ob)[b]? =w.heap[b]? :=fun b hb=>other b (by rintro rfl;exact lN hw hb)
 have hr:∀a v,dd P w D ι a v->dd P {w with heap:=w.heap.setIfInBounds B.b ob} D ι a v:=fun a v h=>h.frame hd (fun _ h=>h) (fun _ _ h=>h)
 refine⟨⟨by simpa using S.lo,fun b hb=>by simpa using S.dead b hb,fun j q h=>?_,fun j j' q q' C C' h h' Q3 hC Df he=>?_⟩,⟨⟨rfl,rfl,rfl,by simp,fun k hk=>other k (by have:=jT hw;omega)⟩,hd,fun _ h=>h,fun _ _ h=>h,fun _ h=>.inl h⟩⟩
 ·unfold bI at h
  split at h
  ·rename_i e
   subst e
   injection h with h;subst h
   exact⟨B,hB,hR hr (by simp[R.lt]),fun _=>jT hw,fun _=>lN hw⟩
  ·rename_i e
   obtain⟨C,hC,RC,k1,k2⟩:=S.row j q h
   refine⟨C,hC,RC.frame (other C.b (fun MD=>e ?_)) hr,k1,k2⟩
   exact(S.inj i j r q B C hid h hw hB hC MD.symm).symm
 ·unfold bI at h h'
  have get:∀j p,(if j=i then some r' else g j)=some p->∃p0,g j=some p0/\(p.w=true->p0.w=true):=fun j p hp=>by
   split at hp
   ·rename_i e;subst e;injection hp with hp;subst hp;exact⟨r,hid,fun _=>hw⟩
   ·exact⟨p,hp,fun h=>h⟩
  obtain⟨p,hp,PN⟩:=get _ _ h
  obtain⟨p',Ol,_⟩:=get _ _ h'
  exact S.inj j j' p p' C C' hp Ol (PN Q3) hC Df he
theorem ES {s:TS} {x y:AV} {u v:Value} (he:fU s x y=some true) (hx:dd P w D ι x u) (hy:dd P w D ι y v):u=v/\∀n,Instr.sameBits n u v=true:=by
 unfold fU at he
 split at he
 ·split at he
  ·rename_i hk
   subst hk
   simp at he;subst he
   rw[dn hx,dn hy]
   exact⟨rfl,fun n=>by cases n<;>simp[Instr.sameBits]⟩
  ·cases he
 ·simp at he;subst he
  rw[e6 hx,e6 hy]
  exact⟨rfl,fun n=>by cases n<;>simp[Instr.sameBits]⟩
 ·simp at he;subst he
  rw[fx hx,fx hy]
  exact⟨rfl,fun n=>by cases n<;>simp[Instr.sameBits,HT]⟩
 ·cases he
theorem AQ {n:Nat}:∀{ts:List TS} {xs ys:List AV} {vs us:List Value},eY ts xs ys=some true->vs.length=xs.length->us.length=ys.length->(∀(j:Nat) (a:AV),xs[j]? =some a->∃u,vs[j]? =some u/\dd P w D ι a u)->(∀(j:Nat) (a:AV),ys[j]? =some a->∃u,us[j]? =some u/\dd P w D ι a u)->
  us.length=vs.length/\(us.zip vs).all (fun p=>Instr.sameBits n p.1 p.2)=true
 |[],[],[],vs,us,_,h1,h2,_,_=>by
  cases vs<;>cases us<;>simp_all
 |[],x::xs,ys,vs,us,h,_,_,_,_=>by simp[eY]at h
 |[],[],y::ys,vs,us,h,_,_,_,_=>by simp[eY]at h
 |t::ts,[],ys,vs,us,h,_,_,_,_=>by simp[eY]at h
 |t::ts,x::xs,[],vs,us,h,_,_,_,_=>by simp[eY]at h
 |t::ts,x::xs,y::ys,[],us,h,h1,_,_,_=>by simp at h1
 |t::ts,x::xs,y::ys,v::vs,[],h,_,h2,_,_=>by simp at h2
 |t::ts,x::xs,y::ys,v::vs,u::us,h,h1,h2,hx,hy=>by
  unfold eY at h
  split at h
  ·rename_i a b ha hb
   simp only[Option.some.injEq,Bool.and_eq_true]at h
   obtain⟨rfl,rfl⟩:=h
   obtain⟨v',nJ,rv⟩:=hx 0 x rfl
   obtain⟨u',E6,ru⟩:=hy 0 y rfl
   simp at nJ E6;subst nJ;subst E6
   obtain⟨e1,e2⟩:=ES ha rv ru
   obtain⟨q1,q2⟩:=AQ (n:=n) hb (by simpa using h1) (by simpa using h2) (fun j a hj=>by simpa using hx (j+1) a (by simpa using hj)) (fun j a hj=>by simpa using hy (j+1) a (by simpa using hj))
   refine⟨by simp[q1],?_⟩
   simp only[List.zip_cons_cons,List.all_cons,q2,Bool.and_true]
   rw[<-e1]
   have:=e2 n
   rw[<-e1]at this
   exact this
  ·cases h
theorem BQ {m:MK} {key:List AV}:∀{rows:List (List AV)} {i j:Nat},fQ m key rows i=some (some j)->∃cs,i<=j/\rows[j-i]? =some cs/\eY m.ts key (cs.take m.ks)=some true
 |[],i,j,h=>by simp[fQ]at h
 |cs::rows,i,j,h=>by
  unfold fQ at h
  split at h
  ·rename_i hq
   simp at h;subst h
   exact⟨cs,Nat.le_refl _,by simp,hq⟩
  ·obtain⟨c,h1,h2,h3⟩:=BQ h
   exact⟨c,by omega,by rw[show j-i=(j-(i+1))+1 by omega];simpa using h2,h3⟩
  ·cases h
theorem vP {m:MK} {k:AV} {rows:List (List AV)} {fi:Option Nat} (h:fJ m k rows=some fi):k.isAgg=m.ka/\k.cells.length=m.ks/\(k.cells.all AV.cell=true)/\fQ m k.cells rows 0=some fi:=by
 unfold fJ at h
 split at h
 ·rename_i hc;exact⟨hc.1,hc.2.1,hc.2.2,h⟩
 ·cases h
theorem Js {m:MK} {k y:AV} (h1:k.isAgg=m.ka) (h2:k.cells.length=m.ks):part m.ka m.ks (k.cells++[y])=some k/\(k.cells++[y])[m.ks]? =some y:=by
 refine⟨?_,by rw[List.getElem?_append_right (by omega),h2,Nat.sub_self];rfl⟩
 cases hk:m.ka with
 |false=>
  rw[hk]at h1
  rw[uS h1];rfl
 |true=>
  rw[hk]at h1
  cases k<;>simp[AV.isAgg]at h1
  rename_i cs
  simp only[AV.cells]at h2 ⊢
  simp only[part,if_true]
  rw[if_pos (by simp;omega),<-h2,List.take_left']
  rfl
theorem stays {k:TypeId} {m:MK} (hK:ED P k m) {key kv:AV} {u B4:Value} {cs:List AV} (h1:key.isAgg=m.ka) (hr:dd P w D ι key u) (hp:part m.ka m.ks cs=some kv) (ho:dd P w D ι kv B4) (he:eY m.ts key.cells (cs.take m.ks)=some true):(Instr.keyThatStays B4 u).run P w=.ok u w:=by
 have hs:Instr.sameBits 10000 B4 u=true:=by
  rcases hK with⟨s,rfl,hs⟩|⟨fs,ts,rfl,rz,xh,dH,dL⟩
  ·rw[uS h1]at he
   cases cs with
   |nil=>simp[part]at hp
   |cons c l=>
    simp[part]at hp;subst hp
    simp only[MK.ks,List.length_cons,List.length_nil,Nat.zero_add,List.take_succ_cons,List.take_zero,eY]at he
    cases hq:fU s key c with
    |none=>rw[hq]at he;simp at he
    |some b=>
     rw[hq]at he;simp at he;subst he
     obtain⟨e1,e2⟩:=ES hq hr ho
     rw[<-e1]
     have:=e2 10000
     rwa [<-e1]at this
  ·cases key<;>simp[AV.isAgg]at h1
   rename_i ks
   simp only[part,if_true]at hp
   split at hp
   ·simp only[Option.some.injEq]at hp;subst hp
    obtain⟨vs,rfl,n1,r1⟩:=rQ hr
    obtain⟨us,rfl,n2,r2⟩:=rQ ho
    obtain⟨q1,q2⟩:=AQ (n:=9999) (vs:=vs.toList) (us:=us.toList) he (by simpa[AV.cells]using n1) (by simpa using n2) (fun j a hj=>by simpa using r1 j a hj) (fun j a hj=>by simpa using r2 j a hj)
    simp only[Instr.sameBits,Bool.and_eq_true,beq_iff_eq]
    exact⟨by simpa using q1,q2⟩
   ·cases hp
 simp[Instr.keyThatStays,hs]
theorem JI {es:Array MapEntry} {clock:Nat} (h:FH es clock) (k v:Value):FH (es.push ⟨k,v,clock⟩) (clock+1):=by
 refine⟨fun x hx=>?_,?_⟩
 ·simp only[Array.toList_push,List.mem_append,List.mem_singleton]at hx
  rcases hx with hx|rfl
  ·have:=h.1 x hx;omega
  ·exact Nat.lt_succ_self _
 ·simp only[Array.toList_push,List.map_append,List.map_cons,List.map_nil]
  refine List.nodup_append.2 ⟨h.2,by simp,fun a ha b hb=>?_⟩
  obtain⟨x,hx,rfl⟩:=List.mem_map.1 ha
  simp at hb;subst hb
  have:=h.1 x hx;omega
theorem Ej {es:Array MapEntry} {clock:Nat} (h:FH es clock) (j:Nat) (k v:Value):FH (es.modify j fun e=>{e with key:=k,val:=v}) clock:=by
 have e:(es.modify j fun e=>{e with key:=k,val:=v}).toList.map (·.born)=es.toList.map (·.born):=by
  refine List.ext_getElem? fun i=>?_
  simp only[List.getElem?_map,Array.getElem?_toList,Array.getElem?_modify]
  split
  ·cases es[i]? <;>rfl
  ·rfl
 refine⟨fun x hx=>?_,by rw[e];exact h.2⟩
 have hb:x.born∈(es.modify j fun e=>{e with key:=k,val:=v}).toList.map (·.born):=List.mem_map_of_mem hx
 rw[e]at hb
 obtain⟨y,hy,hyb⟩:=List.mem_map.1 hb
 rw[<-hyb];exact h.1 y hy
theorem G5 {es:Array MapEntry} {clock:Nat} (h:FH es clock) {j:Nat} (hj:j<es.size):FH (es.eraseIdxIfInBounds j) clock:=by
 have e:(es.eraseIdxIfInBounds j).toList=es.toList.eraseIdx j:=by
  unfold Array.eraseIdxIfInBounds
  rw[dif_pos hj,Array.toList_eraseIdx]
 refine⟨fun x hx=>h.1 x ((List.eraseIdx_sublist _ _).subset (by rwa [e]at hx)),?_⟩
 rw[e]
 exact((List.eraseIdx_sublist es.toList j).map (·.born)).nodup h.2
theorem AY {k y:AV} (h1:k.cells.all AV.cell=true) (h2:y.cell=true):∀a∈k.cells++[y],a.cell=true:=fun a ha=>by
 rcases List.mem_append.1 ha with ha|ha
 ·exact List.all_eq_true.1 h1 a ha
 ·rw[List.mem_singleton.1 ha];exact h2
theorem NC {t:TypeId} {x k y:Operand} {m:MK} {z:K} {x' k' y':O} {g':Rows} (S:gm P hs D ι g w) (E:cj P w D ι env a) (ho:o.op=.mapUpdate t x k y∨o.op=.insert t x k y) (hc:su P t=some (m,z)) (hx:cO P x=some x') (hk:cO P k=some k') (hy:cO P y=some y')
  (hv:bF (.set m) [cL env x',cL env k',cL env y'] g=some g'):CF P hs a o w D ι id .undef g':=by
 obtain⟨kt,e,i,zv,ht,hi,pR,Su,hK⟩:=qZ hc
 simp only[bF,Option.bind_eq_some_iff]at hv
 obtain⟨p,hp,fi,E3,hv⟩:=hv
 split at hv
 ·rename_i hcond
  obtain⟨hw,hyc,_⟩:=hcond
  simp only[Option.some.injEq]at hv;subst hv
  obtain⟨B,hu,hg,hB,uk,es,clock,hb,fb,hlen,hM⟩:=zy S (di E hx) hp
  have rk:=di E hk
  have ry:=di E hy
  obtain⟨Kg,res,hf,hF⟩:=uZ (B:=B) hK rk fb hM E3
  obtain⟨k1,k2,k3,k4⟩:=vP E3
  obtain⟨B',dC,R,_⟩:=S.row p.1 p.2 hg
  rw[hB]at dC;injection dC with dC;subst dC
  obtain⟨pk1,pk2⟩:=Js (y:=cL env y') k1 k2
  have eZ:(getObj B.b).run P w=.ok (.map es clock) w:=MapKept.run_getObj_map hb
  rcases hF with⟨rfl,rfl⟩|⟨j,en,rfl,he,rfl⟩
  ·have nI:=S.Hi (ob:=.map (es.push ⟨a.eval k,a.eval y,clock⟩) (clock+1)) (r':={p.2 with rows:=dI p.2.rows ((cL env k').cells++[cL env y']) none}) hg hw hB fun hr kH=>⟨R.sz,fun cs dt=>?_,fun wS=>(by rw[uk]at wS;cases wS),fun m' Bf=>?_,fun c hc=>(by rw[uk]at hc;cases hc)⟩
   ·refine⟨undef,_,ι,.inr ⟨?_,rfl⟩,nI.2,nI.1,dd.undef,fun _ _=>rfl⟩
    rcases ho with ho|ho<;>
    ·simp only[execOp,ho,Instr.mapUpdate,hu,Sem.run_bind,run_underlying ht,Result.andThen_ok,eZ,Kg,hf,MapKept.run_setObj_map _ hb,Sem.run_pure]
   ·rcases List.mem_append.1 dt with h|h
    ·exact R.flat cs h
    ·rw[List.mem_singleton.1 h];exact AY k3 hyc
   ·rw[uk]at Bf;simp only[Option.some.injEq,BK.map.injEq]at Bf;subst Bf
    refine⟨(R.map m uk).1,_,_,kH,by simp[dI,fb],⟨fun cs dt=>?_,JI hlen.2 _ _⟩,fun q cs hq=>?_⟩
    ·rcases List.mem_append.1 dt with h|h
     ·exact hlen.1 cs h
     ·rw[List.mem_singleton.1 h];simp[k2]
    ·rcases Nat.lt_or_ge q p.2.rows.length with dP|qo
     ·simp only[dI]at hq
      rw[List.getElem?_append_left dP]at hq
      obtain⟨en,kv,vv,q1,q2,q3,q4,q5⟩:=hM q cs hq
      exact⟨en,kv,vv,by rw[Array.getElem?_push_lt (by omega)];rw[Array.getElem?_eq_getElem (by omega)]at q1;simpa using q1,q2,q3,hr _ _ q4,hr _ _ q5⟩
     ·simp only[dI]at hq
      rw[List.getElem?_append_right qo]at hq
      have hq0:q=p.2.rows.length:=by
       have:=(List.getElem?_eq_some_iff.1 hq).1
       simp at this;omega
      subst hq0
      simp at hq;subst hq
      exact⟨⟨a.eval k,a.eval y,clock⟩,_,_,by rw[<-fb];simp,pk1,pk2,hr _ _ rk,hr _ _ ry⟩
  ·simp only[Nat.zero_add]at k4 E3 hf ⊢
   obtain⟨Pv,_,K0,heq⟩:=BQ k4
   simp only[Nat.sub_zero]at K0
   obtain⟨Tf,kv,vv,q1,q2,_,q4,_⟩:=hM j Pv K0
   have Dm:Tf=en:=by
    have h1:es.toList[j]? =some Tf:=by simpa using q1
    rw[he]at h1;injection h1 with h1;exact h1.symm
   subst Dm
   have dH:=stays (w:=w) hK k1 rk q2 q4 heq
   have nI:=S.Hi (ob:=.map (es.modify j fun e=>{e with key:=a.eval k,val:=a.eval y}) clock) (r':={p.2 with rows:=dI p.2.rows ((cL env k').cells++[cL env y']) (some j)}) hg hw hB fun hr kH=>⟨R.sz,fun cs dt=>?_,fun wS=>(by rw[uk]at wS;cases wS),fun m' Bf=>?_,fun c hc=>(by rw[uk]at hc;cases hc)⟩
   ·refine⟨undef,_,ι,.inr ⟨?_,rfl⟩,nI.2,nI.1,dd.undef,fun _ _=>rfl⟩
    rcases ho with ho|ho<;>
    ·simp only[execOp,ho,Instr.mapUpdate,hu,Sem.run_bind,run_underlying ht,Result.andThen_ok,eZ,Kg,hf,q1,Option.map_some,Option.getD_some,dH,MapKept.run_setObj_map _ hb,Sem.run_pure]
   ·rcases List.mem_or_eq_of_mem_set dt with h|h
    ·exact R.flat cs h
    ·rw[h];exact AY k3 hyc
   ·rw[uk]at Bf;simp only[Option.some.injEq,BK.map.injEq]at Bf;subst Bf
    have gG:=(List.getElem?_eq_some_iff.1 K0).1
    refine⟨(R.map m uk).1,_,_,kH,by simp[dI,fb],⟨fun cs dt=>?_,Ej hlen.2 _ _ _⟩,fun q cs hq=>?_⟩
    ·rcases List.mem_or_eq_of_mem_set dt with h|h
     ·exact hlen.1 cs h
     ·rw[h];simp[k2]
    ·simp only[dI,List.getElem?_set]at hq
     split at hq
     ·rename_i PG
      subst PG
      (try rw[if_pos gG]at hq)
      injection hq with hq;subst hq
      exact⟨{Tf with key:=a.eval k,val:=a.eval y},_,_,by rw[Array.getElem?_modify];simp[q1],pk1,pk2,hr _ _ rk,hr _ _ ry⟩
     ·rename_i PG
      obtain⟨en,kv,vv,q1,q2,q3,q4,q5⟩:=hM q cs hq
      exact⟨en,kv,vv,by rw[Array.getElem?_modify];simp[PG,q1],q2,q3,hr _ _ q4,hr _ _ q5⟩
 ·cases hv
theorem NB {t t':TypeId} {x k:Operand} {m:MK} {z:K} {x' k':O} {g':Rows} (S:gm P hs D ι g w) (E:cj P w D ι env a) (ho:o.op=.call {callee:=.builtin .delete,args:= #[x,k],argTypes:= #[t,t']}) (hc:su P t=some (m,z)) (hx:cO P x=some x') (hk:cO P k=some k')
  (hv:bF (.del m) [cL env x',cL env k'] g=some g'):CF P hs a o w D ι id .undef g':=by
 obtain⟨kt,e,i,zv,ht,hi,pR,Su,hK⟩:=qZ hc
 simp only[bF,Option.bind_eq_some_iff]at hv
 obtain⟨p,hp,fi,E3,hv⟩:=hv
 split at hv
 ·rename_i hw
  simp only[Option.some.injEq]at hv;subst hv
  obtain⟨B,hu,hg,hB,uk,es,clock,hb,fb,hlen,hM⟩:=zy S (di E hx) hp
  have rk:=di E hk
  obtain⟨Kg,res,hf,hF⟩:=uZ (B:=B) hK rk fb hM E3
  obtain⟨k1,k2,k3,k4⟩:=vP E3
  obtain⟨B',dC,R,_⟩:=S.row p.1 p.2 hg
  rw[hB]at dC;injection dC with dC;subst dC
  have eZ:(getObj B.b).run P w=.ok (.map es clock) w:=MapKept.run_getObj_map hb
  have go:∀ob,(Builtin.delete_ #[t,t'] o.type #[a.eval x,a.eval k]).run P w=.ok (.tuple #[]) {w with heap:=w.heap.setIfInBounds B.b ob}->(execOp a.eval o).run P w=.ok (.value undef) {w with heap:=w.heap.setIfInBounds B.b ob}:=fun ob h=>by
   simp only[execOp,ho,resolve,Sem.run_bind,Sem.run_pure,Result.andThen_ok,invoke,builtin,Array.map]
   simp[h,undef]
  rcases hF with⟨rfl,rfl⟩|⟨j,en,rfl,he,rfl⟩
  ·have nI:=S.Hi (ob:=.map es clock) (r':={p.2 with rows:=dS p.2.rows none}) hg hw hB fun hr kH=>⟨R.sz,R.flat,fun wS=>(by rw[uk]at wS;cases wS),fun m' Bf=>?_,fun c hc=>(by rw[uk]at hc;cases hc)⟩
   ·refine⟨undef,_,ι,.inl (go _ ?_),nI.2,nI.1,dd.undef,fun _ _=>rfl⟩
    simp[Builtin.delete_,hu,run_underlying ht,eZ,Kg,hf,MapKept.run_setObj_map _ hb]
   ·rw[uk]at Bf;simp only[Option.some.injEq,BK.map.injEq]at Bf;subst Bf
    exact⟨(R.map m uk).1,_,_,kH,fb,hlen,fun q cs hq=>by
     obtain⟨en,kv,vv,q1,q2,q3,q4,q5⟩:=hM q cs hq
     exact⟨en,kv,vv,q1,q2,q3,hr _ _ q4,hr _ _ q5⟩⟩
  ·simp only[Nat.zero_add]at hf ⊢
   have gG:j<es.size:=by have:=(List.getElem?_eq_some_iff.1 he).1;simpa using this
   have nI:=S.Hi (ob:=.map (es.eraseIdxIfInBounds j) clock) (r':={p.2 with rows:=dS p.2.rows (some j)}) hg hw hB fun hr kH=>⟨R.sz,fun cs dt=>R.flat cs (List.mem_of_mem_eraseIdx dt),fun wS=>(by rw[uk]at wS;cases wS),fun m' Bf=>?_,fun c hc=>(by rw[uk]at hc;cases hc)⟩
   ·refine⟨undef,_,ι,.inl (go _ ?_),nI.2,nI.1,dd.undef,fun _ _=>rfl⟩
    simp[Builtin.delete_,hu,run_underlying ht,eZ,Kg,hf,MapKept.run_setObj_map _ hb]
   ·rw[uk]at Bf;simp only[Option.some.injEq,BK.map.injEq]at Bf;subst Bf
    have he2:∀q,(es.eraseIdxIfInBounds j)[q]? =(es.toList.eraseIdx j)[q]? :=fun q=>by
     unfold Array.eraseIdxIfInBounds
     rw[dif_pos gG,<-Array.getElem?_toList,Array.toList_eraseIdx]
    refine⟨(R.map m uk).1,_,_,kH,by simp[dS,Array.eraseIdxIfInBounds,gG,List.length_eraseIdx,<-fb],⟨fun cs dt=>hlen.1 cs (List.mem_of_mem_eraseIdx dt),G5 hlen.2 gG⟩,fun q cs hq=>?_⟩
    simp only[dS,List.getElem?_eraseIdx]at hq
    split at hq
    ·rename_i dP
     obtain⟨en,kv,vv,q1,q2,q3,q4,q5⟩:=hM q cs hq
     exact⟨en,kv,vv,by rw[he2,List.getElem?_eraseIdx,if_pos dP];simpa using q1,q2,q3,hr _ _ q4,hr _ _ q5⟩
    ·rename_i dP
     obtain⟨en,kv,vv,q1,q2,q3,q4,q5⟩:=hM (q+1) cs hq
     exact⟨en,kv,vv,by rw[he2,List.getElem?_eraseIdx,if_neg dP];simpa using q1,q2,q3,hr _ _ q4,hr _ _ q5⟩
 ·cases hv
end
end Go.Proofs.YtgoelphibofcmaaGreat.V
