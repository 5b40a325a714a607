/- A small language in which the program's functions are read by value: its values, its operations, its code, and how the program's code is brought into it. -/
import Derived.WalkKit
import Derived.WalkSpells
import Derived.WalkLawsBesides
import Derived.Lib.Hide
import Derived.Great.BuildSlice
import Derived.Conc.LoneCalls
import Derived.MapKept
import Derived.WideKeyRuns
set_option linter.unusedVariables false
set_option linter.unusedSimpArgs false
set_option maxRecDepth 100000
set_option maxHeartbeats 16000000
namespace Go.Proofs.YtgoljkjaameagaaGreat.V
open Go.RowKit
structure Id where
  site:Nat
  bW:Nat
  deriving DecidableEq,Repr
inductive TS where
  |tI|tB|tS
  deriving Repr,DecidableEq
structure MK where
  ka:Bool
  ts:List TS
  deriving Repr,DecidableEq
inductive AV where
  |int (k:IntKind) (n:Int)
  |bool (b:Bool)
  |str (s:ByteArray)
  |bP|gI|jc
  |sl (rows:List (List AV))
  |own (id:Id) (off len:Nat)
  |ptr (id:Id) (i off:Nat)
  |cN (cs:List AV)
  |agg (cs:List AV)
  |ij (vs:List AV)
  |fn (f:Nat) (cU:List AV)
  |map (id:Id) (m:MK)
  |jl
  |tC (f:Nat) (first:List AV)
  |rm (id:Id)
  deriving Inhabited
def AV.undef:AV:=.ij []
def AV.cell:AV->Bool
  | .agg _| .ij _=>false
  |_=>true
def AV.cells:AV->List AV
  | .agg cs=>cs
  |v=>[v]
inductive K where
  |int (k:IntKind) (n:Int)
  |bool (b:Bool)
  |str (l:List UInt8)
  |bP|gI|jc|jl
  deriving Repr,DecidableEq
def K.val:K->Value
  | .int k n=>.int k n
  | .bool b=>.bool b
  | .str l=>.string ⟨l.toArray⟩
  | .bP=>.slice none 0 0
  | .gI=>.pointer none
  | .jc=>.nilFunc
  | .jl=>.map none
def K.av:K->AV
  | .int k n=>.int k n
  | .bool b=>.bool b
  | .str l=>.str ⟨l.toArray⟩
  | .bP=>.bP
  | .gI=>.gI
  | .jc=>.jc
  | .jl=>.jl
def FF:Value->Option K
  | .int k n=>some (.int k n)
  | .bool b=>some (.bool b)
  | .string s=>some (.str s.data.toList)
  | .slice none 0 0=>some .bP
  | .pointer none=>some .gI
  | .nilFunc=>some .jc
  | .map none=>some .jl
  |_=>none
inductive O where
  |t (n:Nat)
  |k (c:K)
  |ka (cs:List K)
  |f (n:Nat)
  deriving Repr,DecidableEq
inductive MQ where
  |new (m:MK)
  |look (m:MK) (ok:Bool) (zero:K)
  |len (m:MK)
  deriving Repr,DecidableEq
inductive MW where
  |set (m:MK)
  |del (m:MK)
  deriving Repr,DecidableEq
inductive gh where
  |cR (x:O)
  |pick (c a b:O)
  |new (zero:List K)
  |box (x:O)
  |build (zero:List K) (parts:List (Nat×Nat×O))
  |jV (sz len:Nat) (parts:List O)
  |load (agg:Bool) (n:Nat) (a:O)
  |store (n:Nat) (a x:O)
  |xW (x:O)
  |bin (op:BinOp) (k:IntKind) (x y:O)
  |sh (left:Bool) (x y:O)
  |JN (op:BinOp) (x y:O)
  |Ln (neg:Bool) (t:TS) (x y:O)
  |Rb (neg:Bool) (ts:List TS) (x y:O)
  |Pp (neg Kt:Bool) (x:O)
  |Rc (neg:Bool) (x:O)
  |not (x:O)
  |neg (x:O)
  |conv (k:IntKind) (x:O)
  |DQ (x:O)
  |slice (sz:Nat) (x:O) (lo hi:Option O)
  |ze (x:O) (lo hi:Option O)
  |fc (off:Nat) (x:O)
  |field (agg:Bool) (off n:Nat) (x:O)
  |dK (sz:Nat) (x i:O)
  |Km (len sz:Nat) (x i:O)
  |Kp (x i:O)
  |eG (agg:Bool) (len n:Nat) (x i:O)
  |extract (i:Nat) (x:O)
  |len (x:O)
  |Kx (x:O)
  |append (sz:Nat) (x y:O)
  |copy (sz:Nat) (x y:O)
  |clear (zero:List K) (x:O)
  |KC (f:Nat) (cU:List O)
  |KD (f:Nat) (first:List O)
  |jG (zero:List K) (len cap:O)
  |call (f:Nat) (args:List O)
  |sj (x:O) (args:List O)
  |mq (q:MQ) (xs:List O)
  |mw (q:MW) (xs:List O)
  |Ig (x:O)
  |H6 (x:O)
  |snd (x y:O)
  |NU (x:O)
  |bad
  deriving Repr,DecidableEq
structure bz where
  dst:Option Nat
  op:gh
  guard:Option (Nat×Bool)
  site:Nat
  hid:List Nat
  deriving Repr,DecidableEq
def q (d:Nat) (op:gh) (s:Nat):bz:=⟨some d,op,none,s,[]⟩
inductive VC where
  |skip
  |ej (draw:Bool) (ops:List bz)
  |seq (a b:VC)
  |cond (c:O) (x y:VC)
  |block (id:Nat) (c:VC)
  |loop (c:VC)
  |exit (id:Nat)
  |ret
  |one (o:bz) (c:VC)
  |both (a b:VC)
  |loc (t s:Nat) (y:O) (c:VC)
  |Mu (ops:List bz)
  deriving Repr,DecidableEq
inductive oP where
  |tmp (t:Nat)
  |cell (agg:Bool) (n:Nat) (t:Nat)
  deriving Repr,DecidableEq
structure wE where
  ntmps:Nat
  xr:Nat
  body:VC
  res:List oP
  deriving Repr,DecidableEq
def fD (P:Program) (f:Nat):Bool:=
  match P.funcs[f]? with
  |some fn=>fn.body.isSome&& !(fn.name== "runtime.NumGoroutine")
  |none=>false
def cO (P:Program):Operand->Option O
  | .tmp t=>some (.t t)
  | .const (.agg cs)=>(cs.toList.mapM FF).map O.ka
  | .const v=>(FF v).map O.k
  | .global _=>none
  | .func f=>if fD P f then some (.f f)else none
def jq (P:Program) (t:TypeId):Option (List K):=
  match P.info? t with
  |some i=>match i.zero with
    |some v=>if v.cells.size=i.size then v.cells.toList.mapM FF else none
    |none=>none
  |none=>none
def dW (P:Program) (t:TypeId):Option Nat:=(P.info? t).map (·.size)
def mV (P:Program) (t:TypeId):Option Bool:=
  match P.underlying t with
  |some (.struct _)|some (.array _ _)=>some true
  |some _=>some false
  |none=>none
inductive R3 where
  |sc (t:TS)|ag (ts:List TS)
  deriving Repr,DecidableEq
def e9 (P:Program) (t:TypeId):Option TS:=
  match P.underlying t with
  |some .bool=>some .tB
  |some (.int _)=>some .tI
  |some .string=>some .tS
  |_=>none
def Cn (P:Program) (inner:List Field->Option (List TS)):Nat->List Field->Option (List TS)
  |_,[]=>some []
  |off,f::r=>
    if f.offset=off/\f.name≠ "_" then
      match e9 P f.type with
      |some t=>if mV P f.type=some false then(Cn P inner (off+1) r).map (t::·)else none
      |none=>match P.underlying f.type with
        |some (.struct fs)=>if !P.stoodInHeld f.type then match inner fs.toList with
          |some ts=>if dW P f.type=some ts.length/\ts≠[]then(Cn P inner (off+ts.length) r).map (ts++·)else none
          |none=>none else none
        |_=>none
    else none
def ez (P:Program):Nat->Nat->List Field->Option (List TS)
  |0,_,[]=>some []
  |0,_,_::_=>none
  |d+1,off,fs=>Cn P (ez P d 0) off fs
def Sd (P:Program) (t:TypeId):Option R3:=
  match e9 P t with
  |some s=>some (.sc s)
  |none=>match P.underlying t with
    |some (.struct fs)=>if !P.stoodInHeld t&& !P.eqGuardType P.depth t then(ez P 4 0 fs.toList).map R3.ag else none
    |_=>none
def re (P:Program) (fs:Array Field):List (Nat×O)->Option (List (Nat×Nat×O))
  |[]=>some []
  |(i,x)::r=>match fs[i]? with
    |some f=>match dW P f.type with
      |some n=>(re P fs r).map ((f.offset,n,x)::·)
      |none=>none
    |none=>none
def rj (P:Program) (ps:Array (Nat×Operand)):Option (List (Nat×O)):=ps.toList.mapM fun(i,x)=>(cO P x).map (i,·)
def qc (P:Program):Option Operand->Option (Option O)
  |none=>some none
  |some x=>(cO P x).map some
def rf (P:Program) (neg:Bool) (t:TypeId) (x y:Operand):Option gh:=
  match y with
  | .const (.slice none 0 0)=>match P.underlying t with
    |some (.slice _)=>(cO P x).map (gh.Pp neg false)
    |_=>none
  | .const .nilFunc=>match P.underlying t with
    |some (.func ..)=>(cO P x).map (gh.Pp neg true)
    |_=>none
  | .const (.pointer none)=>match P.underlying t with
    |some (.pointer _)=>(cO P x).map (gh.Rc neg)
    |_=>none
  |_=>match Sd P t with
    |some (.sc s)=>do pure (.Ln neg s (<-cO P x) (<-cO P y))
    |some (.ag ts)=>do pure (.Rb neg ts (<-cO P x) (<-cO P y))
    |_=>none
def tV (P:Program) (op:BinOp) (t:TypeId) (x y:Operand):Option gh:=
  match op with
  | .eql=>rf P false t x y
  | .neq=>rf P true t x y
  | .shl=>do pure (.sh true (<-cO P x) (<-cO P y))
  | .shr=>do pure (.sh false (<-cO P x) (<-cO P y))
  |op=>match P.underlying t with
    |some (.int k)=>do pure (.bin op k (<-cO P x) (<-cO P y))
    |some .string=>do pure (.JN op (<-cO P x) (<-cO P y))
    |_=>none
def rh (P:Program) (t:TypeId):Option (MK×K):=
  match P.underlying t with
  |some (.map k e)=>match mV P e,(P.info? e).bind (·.zero),e9 P k,P.underlying k with
    |some false,some zv,some s,_=>(FF zv).map fun z=>(⟨false,[s]⟩,z)
    |some false,some zv,none,some (.struct fs)=>match ez P 4 0 fs.toList,FF zv with
      |some ts,some z=>if !P.stoodInHeld k/\fs.toList.all (fun f=>(e9 P f.type).isSome)then some (⟨true,ts⟩,z)else none
      |_,_=>none
    |_,_,_,_=>none
  |_=>none
def mK (P:Program) (c:Call):Option gh:=
  match c.callee with
  | .builtin .len=>match c.args.toList,c.argTypes.toList with
    |[x],[t]=>match P.underlying t with
      |some (.slice _)=>(cO P x).map gh.len
      |some .string=>(cO P x).map gh.Kx
      |some (.map _ _)=>match rh P t,cO P x with
        |some (m,_),some x=>some (.mq (.len m) [x])
        |_,_=>none
      |some (.chan _ _)=>(cO P x).map gh.H6
      |_=>none
    |_,_=>none
  | .builtin .append=>match c.args.toList,c.argTypes.toList with
    |[x,y],[t,u]=>match P.underlying t with
      |some (.slice e)=>match dW P e,jq P e,P.info? e with
        |some (sz+1),some _,some i=>if i.bytes<=32768/\t=u then do pure (.append (sz+1) (<-cO P x) (<-cO P y))else none
        |_,_,_=>none
      |_=>none
    |_,_=>none
  | .builtin .clear=>match c.args.toList,c.argTypes.toList with
    |[x],[t]=>match P.underlying t with
      |some (.slice e)=>match dW P e,jq P e with
        |some (_+1),some z=>(cO P x).map (gh.clear z)
        |_,_=>none
      |_=>none
    |_,_=>none
  | .value (.func f)=>if fD P f then(c.args.toList.mapM (cO P)).map (gh.call f)else none
  | .value (.tmp t)=>(c.args.toList.mapM (cO P)).map (gh.sj (.t t))
  | .builtin .delete=>match c.args.toList,c.argTypes.toList with
    |[x,k],[t,_]=>match rh P t,cO P x,cO P k with
      |some (m,_),some x,some k=>some (.mw (.del m) [x,k])
      |_,_,_=>none
    |_,_=>none
  | .builtin .copy=>match c.args.toList,c.argTypes.toList with
    |[x,y],[t,_]=>match P.underlying t with
      |some (.slice e)=>match dW P e with
        |some (sz+1)=>do pure (.copy (sz+1) (<-cO P x) (<-cO P y))
        |_=>none
      |_=>none
    |_,_=>none
  |_=>none
def pS (P:Program) (o:Op):Option gh:=
  match o with
  | .move x| .assign x=>(cO P x).map gh.cR
  | .pick c a b=>do pure (.pick (<-cO P c) (<-cO P a) (<-cO P b))
  | .alloc e=>(jq P e).map gh.new
  | .box _ x=>(cO P x).map gh.box
  | .load t a=>do pure (.load (<-mV P t) (<-dW P t) (<-cO P a))
  | .store t a x=>do pure (.store (<-dW P t) (<-cO P a) (<-cO P x))
  | .nilCheck x=>(cO P x).map gh.xW
  | .binOp op t x y _=>tV P op t x y
  | .unOp .not _ x=>(cO P x).map gh.not
  | .unOp .neg _ x=>(cO P x).map gh.neg
  | .convert s d x=>match P.underlying s,P.underlying d with
    |some (.int _),some (.int k)=>(cO P x).map (gh.conv k)
    |some .string,some .string=>(cO P x).map gh.DQ
    |_,_=>none
  | .slice t x lo hi none=>match P.underlying t with
    |some (.slice e)=>do
      pure (.slice (<-dW P e) (<-cO P x) (<-qc P lo) (<-qc P hi))
    |some .string=>do pure (.ze (<-cO P x) (<-qc P lo) (<-qc P hi))
    |_=>none
  | .fieldAddr s x i=>match P.underlying s with
    |some (.struct fs)=>match fs[i]? with
      |some f=>match dW P f.type with
        |some (_+1)=>(cO P x).map (gh.fc f.offset)
        |_=>none
      |none=>none
    |_=>none
  | .field s x i=>match P.underlying s with
    |some (.struct fs)=>match fs[i]? with
      |some f=>do pure (.field (<-mV P f.type) f.offset (<-dW P f.type) (<-cO P x))
      |none=>none
    |_=>none
  | .indexAddr t x i=>match P.underlying t with
    |some (.slice e)=>match dW P e with
      |some (m+1)=>do pure (.dK (m+1) (<-cO P x) (<-cO P i))
      |_=>none
    |some (.array len e)=>match dW P e with
      |some (m+1)=>do pure (.Km len (m+1) (<-cO P x) (<-cO P i))
      |_=>none
    |_=>none
  | .index t x i=>match P.underlying t with
    |some .string=>do pure (.Kp (<-cO P x) (<-cO P i))
    |some (.array len e)=>do pure (.eG (<-mV P e) len (<-dW P e) (<-cO P x) (<-cO P i))
    |_=>none
  | .extract x i=>(cO P x).map (gh.extract i)
  | .build t ps=>match P.underlying t with
    |some (.struct fs)=>
      match jq P t,rj P ps with
      |some z,some l=>
        if fs.all (fun f=>(P.info? f.type).isSome)then(re P fs l).map (gh.build z)else none
      |_,_=>none
    |some (.array _ e)=>
      match jq P t,rj P ps,dW P e with
      |some z,some l,some n=>some (.build z (l.map fun(i,x)=>(i*n,n,x)))
      |_,_,_=>none
    |_=>none
  | .buildSlice t len ps=>match P.underlying t with
    |some (.slice e)=>match dW P e,jq P e,rj P ps with
      |some (sz+1),some _,some l=>
        if len*(sz+1)<=4096/\l.map (·.1)=List.range len then some (.jV (sz+1) len (l.map (·.2)))else none
      |_,_,_=>none
    |_=>none
  | .makeFunc (.func f) first cU=>
    if first= #[]/\fD P f then(cU.toList.mapM (cO P)).map (gh.KC f)else if cU= #[]/\fD P f then(first.toList.mapM (cO P)).map (gh.KD f)else none
  | .makeSlice t l c=>match P.underlying t with
    |some (.slice e)=>match dW P e,jq P e,P.info? e with
      |some (_+1),some z,some i=>if i.bytes<=32768 then do pure (.jG z (<-cO P l) (<-cO P c))else none
      |_,_,_=>none
    |_=>none
  | .call c=>mK P c
  | .makeChan t n=>match P.underlying t with
    |some (.chan _ e)=>match P.info? e with
      |some i=>if i.bytes<=32768 then(cO P n).map gh.Ig else none
      |none=>none
    |_=>none
  | .send x y=>do pure (.snd (<-cO P x) (<-cO P y))
  | .recv t x false=>match P.underlying t with
    |some (.chan _ e)=>match (P.info? e).bind (·.zero)with
      |some _=>(cO P x).map gh.NU
      |none=>none
    |_=>none
  | .makeMap t none=>match rh P t with
    |some (m,_)=>some (.mq (.new m) [])
    |none=>none
  | .lookup t x k ok=>match rh P t,cO P x,cO P k with
    |some (m,z),some x,some k=>some (.mq (.look m ok z) [x,k])
    |_,_,_=>none
  | .mapUpdate t x k v| .insert t x k v=>match rh P t,cO P x,cO P k,cO P v with
    |some (m,_),some x,some k,some v=>some (.mw (.set m) [x,k,v])
    |_,_,_,_=>none
  | .makeInterface _ _=>some .bad
  | .panic _=>some .bad
  |_=>none
inductive RZ where
  |pure|look|make|write
  deriving DecidableEq,Repr
def gh.cls:gh->RZ
  | .new _| .box _| .jV .. | .jG .. | .mq (.new _) _| .Ig _=>.make
  | .load .. | .dK .. | .slice .. | .call .. | .sj .. | .mq .. | .H6 _=>.look
  | .store .. | .append .. | .copy .. | .clear .. | .mw .. | .snd .. | .NU _=>.write
  |_=>.pure
def clash:RZ->RZ->Bool
  | .pure,_|_,.pure=>false
  | .write,_|_,.write=>true
  |_,_=>false
def jj (ops:Array Oper):Array Nat:=Region.before ops
def pM:gh->Bool:=fun o=>o.cls==.make||o.cls==.write
def gh.lh:gh->Bool
  | .call .. | .sj .. =>true
  |_=>false
def B6 (ops:Array Oper) (o:Oper):Option (Option (Nat×Bool)):=
  match o.guard with
  |none=>some none
  |some (i,b)=>match (ops[i]?).bind (·.dst)with
    |some t=>some (some (t,b))
    |none=>none
def lG (P:Program) (ops:Array Oper) (nt site0:Nat) (draw mk:Bool) (bs:Array Nat) (hidden:List (Nat×Bool)) (j:Nat) (o:Oper):Option bz:=do
  let v <-pS P o.op
  let g <-B6 ops o
  if (o.dst.all fun d=>decide (d<nt))then
    pure {dst:=o.dst,op:=v,guard:=g,site:=site0+j,hid:=if draw then(hidden.filter fun(i,m)=>m&& !(bs.getD j 0).testBit i&&(i !=j||mk&&v.lh)).map fun(i,_)=>site0+i else[]}
  else none
def allM {α:Type} (f:Nat->Oper->Option α):List Oper->Nat->Option (List α)
  |[],_=>some []
  |o::r,j=>do pure ((<-f j o)::(<-allM f r (j+1)))
def gz:O->List Nat
  | .t n=>[n]
  |_=>[]
def uN:Option O->List Nat
  |some x=>gz x
  |none=>[]
def gh.gn:gh->List Nat
  | .clear _ x| .cR x| .box x| .load _ _ x| .xW x| .Pp _ _ x| .Rc _ x| .not x| .neg x| .conv _ x| .DQ x| .fc _ x| .field _ _ _ x| .extract _ x| .len x| .Kx x| .Ig x| .H6 x| .NU x=>gz x
  | .pick c a b=>gz c++gz a++gz b
  | .new _| .bad=>[]
  | .build _ ps=>ps.flatMap fun(_,_,x)=>gz x
  | .jV _ _ ps=>ps.flatMap gz
  | .store _ a x| .snd a x=>gz a++gz x
  | .bin _ _ x y| .sh _ x y| .JN _ x y| .Ln _ _ x y| .Rb _ _ x y| .dK _ x y| .Km _ _ x y| .Kp x y| .eG _ _ _ x y| .append _ x y| .copy _ x y| .jG _ x y=>gz x++gz y
  | .slice _ x lo hi| .ze x lo hi=>gz x++uN lo++uN hi
  | .KC _ l| .KD _ l| .call _ l| .mq _ l| .mw _ l=>l.flatMap gz
  | .sj x l=>gz x++l.flatMap gz
def bz.gn (v:bz):List Nat:=v.op.gn++(match v.guard with|some (t,_)=>[t]|none=>[])
def r6 (x y:bz):Bool:=
  (match x.dst with
   |some d=> !y.gn.contains d&&y.dst !=some d
   |none=>true)&&
  (match y.dst with
   |some d=> !x.gn.contains d
   |none=>true)
def bz.makes (v:bz):Bool:=pM v.op||v.op.lh&&v.hid.contains v.site
def DZ (x y:bz):Bool:=
  r6 x y&& !clash x.op.cls y.op.cls&&(!x.makes||y.hid.contains x.site)&&(!y.makes||x.hid.contains y.site)&&x.site !=y.site
def DS (ops:Array Oper):Bool:=ops.toList.zipIdx.all fun(o,j)=>o.after.all fun e=> !Region.binds .any e||decide (e.on<j)
def nG (ops:Array Oper) (vl:List bz) (bs:Array Nat):Bool:=
  DS ops&&vl.zipIdx.all fun(y,j)=>vl.zipIdx.all fun(x,i)=> !(decide (i<j))||(bs.getD j 0).testBit i||DZ x y
def qd (P:Program) (nt site0:Nat) (ops:Array Oper) (draw mk:Bool):Option (List bz):=
  let bs:=if draw then jj ops else #[]
  let hidden:=if draw then ops.toList.zipIdx.map fun(o,i)=>(i,((pS P o.op).map fun v=>pM v||mk&&v.lh).getD false)else[]
  match allM (lG P ops nt site0 draw mk bs hidden) ops.toList 0 with
  |some vl=>if !draw||nG ops vl bs then some vl else none
  |none=>none
def kq (v:bz):Bool:= !v.op.lh&&v.op.cls !=.write
def wZ (x y:bz):Bool:=r6 x y&&x.op.cls==.pure||DZ x y&&kq x&&kq y
def pz (ops:Array Oper) (vl:List bz) (bs:Array Nat) (listed:Array Bool) (i:Nat):Bool:=
  match vl[i]? with
  |some x=>(List.range ops.size).all fun j=>listed.getD j false||j==i||(bs.getD j 0).testBit i||(match vl[j]? with|some y=>wZ x y|none=>false)
  |none=>false
def LV (vl:List bz) (x:bz):Option (Nat×Nat×O):=
  match x.op,x.guard with
  | .append _ (.t t) y,none=>match vl.find? fun v=>v.dst==some t&&v.op.cls==.make with
    |some v=>some (t,v.site,y)
    |none=>none
  |_,_=>none
def DY (s:Nat) (x y:bz):Bool:=r6 x y&&kq y&&y.hid.contains s&&y.hid.contains x.site&&y.site !=s&&y.site !=x.site
def nJ (ops:Array Oper) (vl:List bz) (bs:Array Nat) (listed:Array Bool) (i s:Nat):Bool:=
  match vl[i]? with
  |some x=>(List.range ops.size).all fun j=>listed.getD j false||j==i||(bs.getD j 0).testBit i||(match vl[j]? with|some y=>DY s x y|none=>false)
  |none=>false
def NL (ops:Array Oper) (vl:List bz) (bs:Array Nat) (listed:Array Bool) (i:Nat):Option (Nat×Nat×Nat×O×bz):=
  match vl[i]? with
  |some x=>match LV vl x with
    |some (t,s,y)=>if nJ ops vl bs listed i s then some (i,t,s,y,x)else none
    |none=>none
  |none=>none
def zK:List VC->Option VC
  |[]=>none
  |[c]=>some c
  |c::r=>(zK r).map (VC.both c)
def vp (ops:Array Oper) (vl:List bz) (bs:Array Nat):Nat->Array Bool->Option VC
  |0,listed=>
    match Region.ready .any ops listed with
    |[]=>some (.ej false [])
    |_::_=>none
  |n+1,listed=>
    match Region.ready .any ops listed with
    |[]=>some (.ej false [])
    |r::rs=>let rdy:=r::rs
      match rdy.find? (pz ops vl bs listed)with
      |some i=>match vl[i]? with
        |some vo=>(vp ops vl bs n (listed.setIfInBounds i true)).map (VC.one vo)
        |none=>none
      |none=>match rdy.findSome? (NL ops vl bs listed)with
        |some (i,t,s,y,vo)=>(vp ops vl bs n (listed.setIfInBounds i true)).map fun c=>VC.loc t s y (.one vo c)
        |none=>match rdy.mapM fun i=>(vl[i]?).bind fun vo=>(vp ops vl bs n (listed.setIfInBounds i true)).map (VC.one vo)with
          |some l=>zK l
          |none=>none
def LS:Op->Bool
  | .send .. | .recv .. =>true
  |_=>false
def Pf (P:Program) (nt site0:Nat) (ops:Array Oper) (draw:Bool) (mode:Nat):Option VC:=
  if draw&&mode==2 then
    match allM (lG P ops nt site0 true false (jj ops) (ops.toList.zipIdx.map fun(o,i)=>(i,((pS P o.op).map pM).getD false))) ops.toList 0 with
    |some vl=>vp ops vl (jj ops) ops.size (Array.replicate ops.size false)
    |none=>none
  else if !draw&&ops.any (fun o=>LS o.op)then(qd P nt site0 ops false false).map VC.Mu
  else(qd P nt site0 ops draw (mode==1)).map (VC.ej draw)
def uJ (md:List (Nat×Nat)) (id:Nat):Nat:=
  match md with
  |[]=>0
  |(i,m)::r=>if i=id then m else uJ r id
def jM (P:Program) (md:List (Nat×Nat)) (nt vU:Nat):Code->Option VC
  | .skip=>some .skip
  | .region id ops draw=>Pf P nt ((vU*1000+id)*1000) ops draw (uJ md id)
  | .seq a b=>do pure (.seq (<-jM P md nt vU a) (<-jM P md nt vU b))
  | .cond c x y=>do pure (.cond (<-cO P c) (<-jM P md nt vU x) (<-jM P md nt vU y))
  | .block id c=>(jM P md nt vU c).map (VC.block id)
  | .loop c=>(jM P md nt vU c).map VC.loop
  | .exit id=>some (.exit id)
  | .ret=>some .ret
  |_=>none
def ER (P:Program) (r:ResultVar):Option oP:=
  match r with
  | .tmp t=>some (.tmp t)
  | .cell a t=>do pure (.cell (<-mV P t) (<-dW P t) a)
def sP (P:Program) (f:Nat) (md:List (Nat×Nat)):Option wE:=
  match P.funcs[f]? with
  |some fn=>match fn.body with
    |some c=>do
      let b <-jM P md fn.ntmps f c
      let r <-fn.results.toList.mapM (ER P)
      if fn.params.size+fn.nfree<=fn.ntmps then pure {ntmps:=fn.ntmps,xr:=fn.params.size+fn.nfree,body:=b,res:=r}else none
    |none=>none
  |none=>none
def lx (P:Program) (f:Nat):Option wE:=sP P f []
structure Row where
 w:Bool
 sz:Nat
 rows:List (List AV)
abbrev Rows:=Id->Option Row
structure ar where
 get:Rows
 next:Nat
abbrev Env:=Nat->AV
def upd (env:Env):Option Nat->AV->Env
 |some d,v=>fun t=>if t=d then v else env t
 |none,_=>env
inductive Ex where
 |normal
 |exit (id:Nat)
 |ret
 deriving DecidableEq
def cJ (env:Env):O->AV
 | .t n=>env n
 | .k c=>c.av
 | .ka cs=>.agg (cs.map K.av)
 | .f n=>.fn n []
def bH (g:Rows) (id:Id) (r:Row):Rows:=fun i=>if i=id then some r else g i
def bG (g:Rows) (id:Id):Rows:=fun i=>if i=id then none else g i
def eW:List Nat->Nat->Rows->Rows
 |[],_,g=>g
 |h::t,n,g=>fun id=>if (h::t).contains id.site=true/\id.bW=n then none else g id
def ro (g:Rows):Rows:=fun id=>(g id).map fun r=>{r with w:=false}
def part (agg:Bool) (n:Nat) (cs:List AV):Option AV:=
 if agg then(if n<=cs.length then some (.agg (cs.take n))else none)else cs.head?
def rowAt (g:Rows) (id:Id) (i:Nat):Option (List AV):=(g id).bind (·.rows[i]?)
def ld (g:Rows) (agg:Bool) (n:Nat):AV->Option AV
 | .ptr id i off=>(rowAt g id i).bind fun cs=>part agg n (cs.drop off)
 | .cN cs=>part agg n cs
 |_=>none
def cX:BinOp->IntKind->Int->Int->Option AV
 | .add,k,a,b=>some (.int k (k.wrap (a+b)))
 | .sub,k,a,b=>some (.int k (k.wrap (a-b)))
 | .mul,k,a,b=>some (.int k (k.wrap (a*b)))
 | .quo,k,a,b=>if b=0 then none else some (.int k (k.wrap (a.tdiv b)))
 | .rem,k,a,b=>if b=0 then none else some (.int k (a.tmod b))
 | .lss,_,a,b=>some (.bool (decide (a<b)))
 | .leq,_,a,b=>some (.bool (decide (a<=b)))
 | .gtr,_,a,b=>some (.bool (decide (b<a)))
 | .geq,_,a,b=>some (.bool (decide (b<=a)))
 | .and,k,a,b=>some (.int k (k.wrap (BitVec.ofInt k.bits a&&& BitVec.ofInt k.bits b).toNat))
 | .or,k,a,b=>some (.int k (k.wrap (BitVec.ofInt k.bits a|||BitVec.ofInt k.bits b).toNat))
 | .xor,k,a,b=>some (.int k (k.wrap (BitVec.ofInt k.bits a ^^^ BitVec.ofInt k.bits b).toNat))
 |_,_,_,_=>none
def dr (op:BinOp):AV->AV->Option AV
 | .int k a,.int k' b=>if k=k' then cX op k a b else none
 |_,_=>none
def fR (left:Bool):AV->AV->Option AV
 | .int k a,.int _ b=>if b<0 then none else some (.int k (if left then k.wrap (a*2 ^ min b.toNat k.bits)else a.fdiv (2 ^ min b.toNat k.bits)))
 |_,_=>none
def dD:BinOp->ByteArray->ByteArray->Option AV
 | .add,a,b=>if a.size+b.size<=9223372036854775807 then some (.str (a++b))else none
 | .lss,a,b=>some (.bool (Op.bytesLess a.toList b.toList))
 | .leq,a,b=>some (.bool (Op.bytesLess a.toList b.toList||(a.toList==b.toList)))
 | .gtr,a,b=>some (.bool !(Op.bytesLess a.toList b.toList||(a.toList==b.toList)))
 | .geq,a,b=>some (.bool !(Op.bytesLess a.toList b.toList))
 |_,_,_=>none
def cE (op:BinOp):AV->AV->Option AV
 | .str a,.str b=>dD op a b
 |_,_=>none
def e6:TS->AV->AV->Option Bool
 | .tI,.int k a,.int k' b=>if k=k' then some (decide (a=b))else none
 | .tB,.bool a,.bool b=>some (a==b)
 | .tS,.str a,.str b=>some (decide (a=b))
 |_,_,_=>none
def eF:List TS->List AV->List AV->Option Bool
 |[],[],[]=>some true
 |t::ts,a::r,b::s=>match e6 t a b,eF ts r s with
  |some x,some y=>some (x&&y)
  |_,_=>none
 |_,_,_=>none
def cQ (neg b:Bool):Bool:=if neg then !b else b
def cC:AV->Option Bool
 | .bP=>some true
 | .own _ _ _=>some false
 | .sl (_::_)=>some false
 |_=>none
def cz:AV->Option Bool
 | .jc=>some true
 | .fn _ _=>some false
 |_=>none
def I2:AV->Option Bool
 | .gI=>some true
 | .ptr .. | .cN _=>some false
 |_=>none
def dx (Kt:Bool) (x:AV):Option Bool:=if Kt then cz x else cC x
def db (len:Nat):Option AV->Option Nat
 |none=>some len
 |some (.int _ n)=>if 0<=n/\n<=len then some n.toNat else none
 |_=>none
def dc (h:Nat):Option AV->Option Nat
 |none=>some 0
 |some (.int _ n)=>if 0<=n/\n<=h then some n.toNat else none
 |_=>none
def br (g:Rows) (sz:Nat) (x:AV) (lo hi:Option AV):Option AV:=
 match x with
 | .bP=>(db 0 hi).bind fun h=>(dc h lo).map fun _=>.bP
 | .sl rows=>(db rows.length hi).bind fun h=>(dc h lo).bind fun l=>if ∀cs∈rows,cs.length=sz then some (.sl ((rows.drop l).take (h-l)))else none
 | .own id off len=>(g id).bind fun r=>(db len hi).bind fun h=>(dc h lo).bind fun l=>if r.sz=sz then some (.own id (off+l) (h-l))else none
 |_=>none
def aJ (x:AV) (lo hi:Option AV):Option AV:=
 match x with
 | .str s=>(db s.size hi).bind fun h=>(dc h lo).map fun l=>.str (s.extract l h)
 |_=>none
def DE (off:Nat):AV->Option AV
 | .ptr id i o=>some (.ptr id i (o+off))
 | .cN cs=>some (.cN (cs.drop off))
 |_=>none
def bq (g:Rows) (sz:Nat):AV->AV->Option AV
 | .sl rows,.int _ n=>if 0<=n then(rows[n.toNat]?).bind fun cs=>if cs.length=sz then some (.cN cs)else none else none
 | .own id off len,.int _ n=>if 0<=n/\n<len then(g id).bind fun r=>if r.sz=sz then some (.ptr id (off+n.toNat) 0)else none else none
 |_,_=>none
def ck (len sz:Nat):AV->AV->Option AV
 | .ptr id r off,.int _ n=>if 0<=n/\n<len then some (.ptr id r (off+n.toNat*sz))else none
 | .cN cs,.int _ n=>if 0<=n/\n<len then some (.cN (cs.drop (n.toNat*sz)))else none
 |_,_=>none
def cq:AV->AV->Option AV
 | .str s,.int _ n=>if 0<=n then(s[n.toNat]?).map fun b=>.int .u8 b.toNat else none
 |_,_=>none
def cm (agg:Bool) (len n:Nat):AV->AV->Option AV
 | .agg cs,.int _ i=>if 0<=i/\i<len then part agg n (cs.drop (i.toNat*n))else none
 |_,_=>none
def dv:AV->Option Nat
 | .bP=>some 0
 | .sl rows=>some rows.length
 | .own _ _ n=>some n
 |_=>none
def dy:AV->Option AV
 | .bool b=>some (.bool !b)
 |_=>none
def dw:AV->Option AV
 | .int k n=>some (.int k (k.wrap (0-n)))
 |_=>none
def cj (k:IntKind):AV->Option AV
 | .int _ n=>some (.int k (k.wrap n))
 |_=>none
def bx:AV->Option AV
 | .str s=>some (.str s)
 |_=>none
def cD:AV->AV->AV->Option AV
 | .bool c,a,b=>some (if c then a else b)
 |_,_,_=>none
def dt:AV->Option AV
 | .ptr id i o=>some (.ptr id i o)
 | .cN cs=>some (.cN cs)
 |_=>none
def bp (agg:Bool) (off n:Nat):AV->Option AV
 | .agg cs=>if off+n<=cs.length then part agg n (cs.drop off)else none
 |_=>none
def aA (i:Nat):AV->Option AV
 | .ij vs=>vs[i]?
 |_=>none
def cu:AV->Option AV
 | .str s=>some (.int .i64 s.size)
 |_=>none
def rowOf (sz:Nat) (v:AV):Option (List AV):=if v.cells.length=sz/\v.cells.all AV.cell then some v.cells else none
def b4 (v:AV):Option (List AV):=if v.cells.all AV.cell then some v.cells else none
def rowsOf (sz:Nat):List AV->Option (List (List AV))
 |[]=>some []
 |v::r=>(rowOf sz v).bind fun c=>(rowsOf sz r).map fun cs=>c::cs
def bQ:List AV->List (Nat×Nat×AV)->Option (List AV)
 |cs,[]=>some cs
 |cs,(off,n,v)::r=>if v.cells.length=n/\off+n<=cs.length/\v.cells.all AV.cell then bQ (cs.take off++v.cells++cs.drop (off+n)) r else none
def cY:Nat:=16777216
def fQ (zero:List K):AV->AV->Option (Nat×Row)
 | .int _ l,.int _ c=>if 0<=l/\l<=c/\c<=cY then some (l.toNat,⟨true,zero.length,List.replicate l.toNat (zero.map K.av)⟩)else none
 |_,_=>none
def s6:Nat:=1000000000
def MK.ks (m:MK):Nat:=m.ts.length
def MK.y7 (m:MK):Nat:=s6+m.ks
def AV.isAgg:AV->Bool
 | .agg _=>true
 |_=>false
def ib (m:MK) (key:List AV):List (List AV)->Nat->Option (Option Nat)
 |[],_=>some none
 |r::l,i=>match eF m.ts key (r.take m.ks)with
  |some true=>some (some i)
  |some false=>ib m key l (i+1)
  |none=>none
def de (g:Rows) (m:MK):AV->Option (Id×Row)
 | .map id m'=>if m'=m then(g id).map fun r=>(id,r)else none
 |_=>none
def gS (m:MK) (k:AV) (rows:List (List AV)):Option (Option Nat):=if k.isAgg=m.ka/\k.cells.length=m.ks/\k.cells.all AV.cell then ib m k.cells rows 0 else none
def dn (m:MK) (z:K) (rows:List (List AV)):Option Nat->Option AV
 |some i=>(rows[i]?).bind fun cs=>cs[m.ks]?
 |none=>some z.av
def bj (q:MQ) (vs:List AV) (g:Rows) (id:Id):Option (AV×Option Row):=
 match q,vs with
 | .new m,[]=>some (.map id m,some ⟨true,m.y7,[]⟩)
 | .look m ok z,[x,k]=>(de g m x).bind fun p=>(gS m k p.2.rows).bind fun fi=>(dn m z p.2.rows fi).map fun v=>(if ok then .ij [v,.bool fi.isSome]else v,none)
 | .len m,[x]=>(de g m x).map fun p=>(.int .i64 p.2.rows.length,none)
 |_,_=>none
def qg:Nat:=2000000000
def cw:AV->Option Nat
 | .int _ n=>if 0<=n/\n<=1048576 then some n.toNat else none
 |_=>none
def cr (g:Rows):AV->Option AV
 | .rm id=>(g id).map fun r=>.int .i64 r.rows.length
 |_=>none
def dB (g:Rows):AV->AV->Option Rows
 | .rm id,v=>(g id).bind fun r=>if r.w/\qg+r.rows.length<r.sz/\v.cell then some (bH g id {r with rows:=r.rows++[[v]]})else none
 |_,_=>none
def dz (g:Rows):AV->Option (AV×Rows)
 | .rm id=>(g id).bind fun r=>match r.rows with
  |[v]::rest=>if r.w then some (v,bH g id {r with rows:=rest})else none
  |_=>none
 |_=>none
def da (rows:List (List AV)) (e:List AV):Option Nat->List (List AV)
 |some i=>rows.set i e
 |none=>rows++[e]
def dj (rows:List (List AV)):Option Nat->List (List AV)
 |some i=>rows.eraseIdx i
 |none=>rows
def bl (q:MW) (vs:List AV) (g:Rows):Option Rows:=
 match q,vs with
 | .set m,[x,k,v]=>(de g m x).bind fun p=>(gS m k p.2.rows).bind fun fi=>if p.2.w/\v.cell/\v.isAgg=false then some (bH g p.1 {p.2 with rows:=da p.2.rows (k.cells++[v]) fi})else none
 | .del m,[x,k]=>(de g m x).bind fun p=>(gS m k p.2.rows).bind fun fi=>if p.2.w then some (bH g p.1 {p.2 with rows:=dj p.2.rows fi})else none
 |_,_=>none
def ec (o:gh) (ρ:O->AV) (g:Rows) (id:Id):Option (AV×Option Row):=
 match o with
 | .cR x=>some (ρ x,none)
 | .pick c a b=>(cD (ρ c) (ρ a) (ρ b)).map (·,none)
 | .new zero=>some (.ptr id 0 0,some ⟨true,zero.length,[zero.map K.av]⟩)
 | .box x=>(b4 (ρ x)).map fun cs=>(.ptr id 0 0,some ⟨true,cs.length,[cs]⟩)
 | .build zero parts=>(bQ (zero.map K.av) (parts.map fun(o,n,x)=>(o,n,ρ x))).map fun cs=>(.agg cs,none)
 | .jV sz len parts=>(rowsOf sz (parts.map ρ)).map fun rs=>(.own id 0 len,some ⟨true,sz,rs⟩)
 | .load agg n a=>(ld g agg n (ρ a)).map (·,none)
 | .xW x=>(dt (ρ x)).map (·,none)
 | .bin op _ x y=>(dr op (ρ x) (ρ y)).map (·,none)
 | .sh left x y=>(fR left (ρ x) (ρ y)).map (·,none)
 | .JN op x y=>(cE op (ρ x) (ρ y)).map (·,none)
 | .Ln neg t x y=>(e6 t (ρ x) (ρ y)).map fun b=>(.bool (cQ neg b),none)
 | .Rb neg ts x y=>match ρ x,ρ y with
  | .agg xs,.agg ys=>(eF ts xs ys).map fun b=>(.bool (cQ neg b),none)
  |_,_=>none
 | .Pp neg Kt x=>(dx Kt (ρ x)).map fun b=>(.bool (cQ neg b),none)
 | .Rc neg x=>(I2 (ρ x)).map fun b=>(.bool (cQ neg b),none)
 | .not x=>(dy (ρ x)).map (·,none)
 | .neg x=>(dw (ρ x)).map (·,none)
 | .conv k x=>(cj k (ρ x)).map (·,none)
 | .DQ x=>(bx (ρ x)).map (·,none)
 | .slice sz x lo hi=>(br g sz (ρ x) (lo.map ρ) (hi.map ρ)).map (·,none)
 | .ze x lo hi=>(aJ (ρ x) (lo.map ρ) (hi.map ρ)).map (·,none)
 | .fc off x=>(DE off (ρ x)).map (·,none)
 | .field agg off n x=>(bp agg off n (ρ x)).map (·,none)
 | .dK sz x i=>(bq g sz (ρ x) (ρ i)).map (·,none)
 | .Km len sz x i=>(ck len sz (ρ x) (ρ i)).map (·,none)
 | .Kp x i=>(cq (ρ x) (ρ i)).map (·,none)
 | .eG agg len n x i=>(cm agg len n (ρ x) (ρ i)).map (·,none)
 | .extract i x=>(aA i (ρ x)).map (·,none)
 | .len x=>(dv (ρ x)).map fun(n:Nat)=>(AV.int .i64 (n:Int),none)
 | .Kx x=>(cu (ρ x)).map (·,none)
 | .KC f cU=>some (.fn f (cU.map ρ),none)
 | .KD f first=>some (.tC f (first.map ρ),none)
 | .jG zero l c=>(fQ zero (ρ l) (ρ c)).map fun(n,r)=>(.own id 0 n,some r)
 | .mq q xs=>bj q (xs.map ρ) g id
 | .Ig x=>(cw (ρ x)).map fun n=>(.rm id,some ⟨true,qg+n,[]⟩)
 | .H6 x=>(cr g (ρ x)).map (·,none)
 |_=>none
def bd (g:Rows):AV->Option (List (List AV))
 | .bP=>some []
 | .sl rows=>some rows
 | .own id off len=>(g id).bind fun r=>if off+len<=r.rows.length then some ((r.rows.drop off).take len)else none
 |_=>none
def bY (cs:List AV) (off:Nat) (xs:List AV):List AV:=cs.take off++xs++cs.drop (off+xs.length)
def bt (g:Rows) (n:Nat) (v:AV):AV->Option Rows
 | .ptr id i off=>(g id).bind fun r=>(r.rows[i]?).bind fun cs=>
  if r.w/\v.cells.length=n/\v.cells.all AV.cell/\off+n<=cs.length then some (bH g id {r with rows:=r.rows.set i (bY cs off v.cells)})else none
 |_=>none
def aH (g:Rows) (id:Id) (sz:Nat) (x:AV) (ys:List (List AV)):Option (AV×Rows):=
 match x with
 | .bP=>match ys with
  |[]=>some (.bP,g)
  |y::r=>if (y::r).length<=cY/\(y::r).all (fun c=>c.length==sz&&c.all AV.cell)then some (.own id 0 (y::r).length,bH g id ⟨true,sz,y::r⟩)else none
 | .own i 0 len=>(g i).bind fun r=>
  if r.w/\r.sz=sz/\len=r.rows.length/\len+ys.length<=cY/\ys.all (fun c=>c.length==sz&&c.all AV.cell)then some (.own id 0 (len+ys.length),bH (bG g i) id ⟨true,sz,r.rows++ys⟩)else none
 |_=>none
def EC (g:Rows) (sz:Nat) (x:AV) (ys:List (List AV)):Option (AV×Rows):=
 match x with
 | .own i off len=>(g i).bind fun r=>
  if r.w/\r.sz=sz/\off+len<=r.rows.length/\ys.all (fun c=>c.length==sz&&c.all AV.cell)then
   some (.int .i64 (min ys.length len:Nat),bH g i {r with rows:=r.rows.take off++ys.take (min ys.length len)++r.rows.drop (off+min ys.length len)})else none
 |_=>none
def bo (g:Rows) (zero:List K) (x:AV):Option Rows:=
 match x with
 | .bP=>some g
 | .own i off len=>(g i).bind fun r=>
  if r.w/\r.sz=zero.length/\off+len<=r.rows.length then
   some (bH g i {r with rows:=r.rows.take off++List.replicate len (zero.map K.av)++r.rows.drop (off+len)})else none
 |_=>none
def eY (o:gh) (ρ:O->AV) (g:Rows) (id:Id):Option (AV×Rows):=
 match o with
 | .store n a x=>(bt g n (ρ x) (ρ a)).map fun g'=>(.undef,g')
 | .append sz x y=>(bd g (ρ y)).bind fun ys=>aH g id sz (ρ x) ys
 | .copy sz x y=>(bd g (ρ y)).bind fun ys=>EC g sz (ρ x) ys
 | .clear zero x=>(bo g zero (ρ x)).map fun g'=>(.undef,g')
 | .mw q xs=>(bl q (xs.map ρ) g).map fun g'=>(.undef,g')
 |_=>none
def tW:AV->List AV->Option (Nat×List AV)
 | .fn f cU,l=>some (f,l++cU)
 | .tC f first,l=>some (f,first++l)
 |_,_=>none
abbrev fy:=Nat->List AV->ar->(AV->ar->Prop)->Prop
mutual
def fz (g:Rows):Nat->AV->Option AV
 |0,_=>none
 |n+1,a=>match a with
  | .own id off len=>match g id with
   |some r=>if r.w then(if off+len<=r.rows.length then(dQ g n ((r.rows.drop off).take len)).map AV.sl else none)else none
   |none=>none
  | .ptr id i off=>match g id with
   |some r=>if r.w then(match r.rows[i]? with
    |some cs=>(cI g n (cs.drop off)).map AV.cN
    |none=>none)else none
   |none=>none
  | .agg cs=>(cI g n cs).map AV.agg
  | .ij vs=>(cI g n vs).map AV.ij
  | .fn f cU=>if cU.all AV.cell then(cI g n cU).map (AV.fn f)else none
  | .map _ _| .tC _ _| .rm _=>none
  |v=>some v
 termination_by n _=>(n,0)
def cI (g:Rows):Nat->List AV->Option (List AV)
 |n,[]=>some []
 |n,a::r=>match fz g n a with
  |some b=>(cI g n r).map (b::·)
  |none=>none
 termination_by n l=>(n,l.length+1)
def dQ (g:Rows):Nat->List (List AV)->Option (List (List AV))
 |n,[]=>some []
 |n,c::r=>match cI g n c with
  |some b=>(dQ g n r).map (b::·)
  |none=>none
 termination_by n l=>(n,(l.map (fun c=>c.length+2)).sum+1)
 decreasing_by all_goals simp_wf;try omega
end
mutual
def ga (g:Rows):Nat->AV->Option AV
 |0,_=>none
 |n+1,a=>match a with
  | .own id off len=>match g id with
   |some r=>if r.w then(if off+len<=r.rows.length then(gJ g n ((r.rows.drop off).take len)).map AV.sl else none)else none
   |none=>none
  | .ptr id i off=>match g id with
   |some r=>if r.w then(match r.rows[i]? with
    |some cs=>(dR g n (cs.drop off)).map AV.cN
    |none=>none)else none
   |none=>none
  | .agg cs=>(dR g n cs).map AV.agg
  | .ij vs=>(dR g n vs).map AV.ij
  | .int k m=>some (.int k m)
  | .bool b=>some (.bool b)
  | .str s=>some (.str s)
  | .bP=>some .bP
  | .gI=>some .gI
  | .jc=>some .jc
  | .jl=>some .jl
  |_=>none
 termination_by n _=>(n,0)
def dR (g:Rows):Nat->List AV->Option (List AV)
 |n,[]=>some []
 |n,a::r=>match ga g n a with
  |some b=>(dR g n r).map (b::·)
  |none=>none
 termination_by n l=>(n,l.length+1)
def gJ (g:Rows):Nat->List (List AV)->Option (List (List AV))
 |n,[]=>some []
 |n,c::r=>match dR g n c with
  |some b=>(gJ g n r).map (b::·)
  |none=>none
 termination_by n l=>(n,(l.map (fun c=>c.length+2)).sum+1)
 decreasing_by all_goals simp_wf;try omega
end
def dd (g:Rows):Rows:=fun id=>(g id).map fun r=>{r with w:=true}
def PC (X:fy) (f:Nat) (args:List AV) (σ:ar) (K:AV->Prop):Prop:=
 X f args ⟨ro σ.get,σ.next⟩ fun r σ'=>∃r',fz σ'.get 6 r=some r'/\K r'
def PCv (X:fy) (f:Nat) (args:List AV) (σ:ar) (K:AV->Prop):Prop:=
 ∃eD,cI (dd σ.get) 6 args=some eD/\X f eD ⟨fun _=>none,σ.next⟩ fun r σ'=>∃r',ga σ'.get 6 r=some r'/\K r'
def fu (X:fy) (f:Nat) (args:List AV) (σ:ar) (K:AV->Prop):Prop:=PC X f args σ K∨PCv X f args σ K
def az (g:Option (Nat×Bool)) (env:Env):Bool:=
 match g with
 |none=>true
 |some (t,b)=>match env t with
  | .bool c=>c==b
  |_=>false
def AV.plain:AV->Bool
 | .int .. | .bool _| .str _| .bP| .gI| .jc| .jl=>true
 |_=>false
def CM (X:fy) (f:Nat) (args:List AV) (σ:ar) (sz:Nat) (rows:List (List AV)):Prop:=
 (∀c∈rows,∀a∈c,a.plain=true)/\∃eD,cI (dd σ.get) 6 args=some eD/\X f eD ⟨fun _=>none,σ.next⟩ fun r σ'=>∃id,r=.own id 0 rows.length/\σ'.get id=some ⟨true,sz,rows⟩
def bV (X:fy) (draw:Bool) (hid:List Nat) (site:Nat) (f:Nat) (args:List AV) (σ:ar) (next:AV->ar->Prop):Prop:=
 (∃r,fu X f args ⟨eW hid σ.next σ.get,σ.next+1⟩ (fun r'=>r'=r)/\next r σ)∨
 (draw=false/\X f args ⟨σ.get,σ.next+1⟩ next)∨
 (hid.contains site=true/\∃sz rows,CM X f args ⟨eW hid σ.next σ.get,σ.next+1⟩ sz rows/\next (.own ⟨site,σ.next⟩ 0 rows.length) ⟨bH σ.get ⟨site,σ.next⟩ ⟨true,sz,rows⟩,σ.next⟩)
def eQ (X:fy) (draw:Bool) (o:bz) (env:Env) (σ:ar) (next:AV->ar->Prop):Prop:=
 match o.op with
 | .call f args=>bV X draw o.hid o.site f (args.map (cJ env)) σ next
 | .sj x args=>match cJ env x with
  | .fn f cU=>bV X draw o.hid o.site f (args.map (cJ env)++cU) σ next
  | .tC f first=>bV X draw o.hid o.site f (first++args.map (cJ env)) σ next
  |_=>False
 | .store .. | .append .. | .copy .. | .clear .. | .mw .. =>match eY o.op (cJ env) σ.get ⟨o.site,σ.next⟩with
  |some (v,g)=>next v ⟨g,σ.next⟩
  |none=>False
 |_=>match ec o.op (cJ env) (eW o.hid σ.next σ.get) ⟨o.site,σ.next⟩with
  |some (v,some r)=>next v ⟨bH σ.get ⟨o.site,σ.next⟩ r,σ.next⟩
  |some (v,none)=>next v σ
  |none=>False
def wpOps (X:fy) (draw:Bool):List bz->(Env->ar->Prop)->Env->ar->Prop
 |[],K,env,σ=>K env ⟨σ.get,σ.next+1⟩
 |o::r,K,env,σ=>
  if az o.guard env then eQ X draw o env σ fun v σ'=>wpOps X draw r K (upd env o.dst v) σ'
  else wpOps X draw r K (upd env o.dst .undef) σ
def bK:List bz->(Env->ar->Prop)->Env->ar->Prop
 |[],K,env,σ=>K env ⟨σ.get,σ.next+1⟩
 |o::r,K,env,σ=>o.guard=none/\match o.op with
  | .snd x y=>match dB σ.get (cJ env x) (cJ env y)with
   |some g=>bK r K (upd env o.dst .undef) ⟨g,σ.next⟩
   |none=>False
  | .NU x=>match dz σ.get (cJ env x)with
   |some (v,g)=>bK r K (upd env o.dst v) ⟨g,σ.next⟩
   |none=>False
  |op=>match ec op (cJ env) σ.get ⟨o.site,σ.next⟩with
   |some (v,none)=>bK r K (upd env o.dst v) σ
   |_=>False
def cW (next:Env->ar->Prop) (Q:Ex->Env->ar->Prop):Ex->Env->ar->Prop
 | .normal=>next
 |e=>Q e
def aX (id:Nat) (Q:Ex->Env->ar->Prop):Ex->Env->ar->Prop
 | .exit ki=>if ki=id then Q .normal else Q (.exit ki)
 |e=>Q e
def En (W:(Ex->Env->ar->Prop)->Env->ar->Prop) (Q:Ex->Env->ar->Prop):Nat->Env->ar->Prop
 |0=>fun _ _=>False
 |n+1=>W (cW (En W Q n) Q)
def Ky (t s:Nat) (y:O) (env:Env) (n:Nat):Prop:=(∃len,env t=.own ⟨s,n⟩ 0 len)/\∀id o l,cJ env y=.own id o l->id.bW≠n
def dL (X:fy):VC->(Ex->Env->ar->Prop)->Env->ar->Prop
 | .skip,Q=>Q .normal
 | .ej draw ops,Q=>wpOps X draw ops (Q .normal)
 | .seq a b,Q=>dL X a (cW (dL X b Q) Q)
 | .cond c x y,Q=>fun env σ=>match cJ env c with
  | .bool b=>if b then dL X x Q env σ else dL X y Q env σ
  |_=>False
 | .block id c,Q=>dL X c (aX id Q)
 | .loop c,Q=>fun env σ=>∃n,En (dL X c) Q n env σ
 | .exit id,Q=>Q (.exit id)
 | .ret,Q=>Q .ret
 | .one o c,Q=>fun env σ=>if az o.guard env then eQ X false o env σ fun v σ'=>dL X c Q (upd env o.dst v) σ' else dL X c Q (upd env o.dst .undef) σ
 | .both a b,Q=>fun env σ=>dL X a Q env σ/\dL X b Q env σ
 | .loc t s y c,Q=>fun env σ=>Ky t s y env σ.next/\dL X c Q env σ
 | .Mu ops,Q=>bK ops (Q .normal)
def gM (env:Env) (g:Rows):oP->Option AV
 | .tmp t=>some (env t)
 | .cell agg n t=>ld g agg n (env t)
def eX (env:Env) (g:Rows):List oP->Option (List AV)
 |[]=>some []
 |r::l=>(gM env g r).bind fun v=>(eX env g l).map (v::·)
def eL:List AV->AV
 |[v]=>v
 |l=>.ij l
def bJ (args:List AV):Env:=fun t=>args.getD t .undef
def lk (res:List oP) (K:AV->ar->Prop):Ex->Env->ar->Prop
 | .exit _,_,_=>False
 |_,env,σ=>∃vs,eX env σ.get res=some vs/\K (eL vs) σ
inductive jK (P:Program) (w:World) (D:Nat->Prop):AV->Value->Prop
 |int (k n):jK P w D (.int k n) (.int k n)
 |bool (b):jK P w D (.bool b) (.bool b)
 |str (s):jK P w D (.str s) (.string s)
 |bP:jK P w D .bP (.slice none 0 0)
 |gI:jK P w D .gI (.pointer none)
 |jc:jK P w D .jc .nilFunc
 |BI (a c):c<=maxLen->jK P w D (.sl []) (.slice a 0 c)
 |sl (rows b o n c sz) (vs:Nat->Nat->Value):rows.length=n->n<=c->c<=maxLen->D b->(∀cs∈rows,cs.length=sz)->(∀cs∈rows,∀a∈cs,a.cell=true)->
   (∀i j,i<n->j<sz->w.cell? ⟨b,o+(i*sz+j),none⟩=some (vs i j))->
   (∀i j cs a,rows[i]? =some cs->cs[j]? =some a->jK P w D a (vs i j))->jK P w D (.sl rows) (.slice (some ⟨b,o,none⟩) n c)
 |cN (cs b o) (vs:Nat->Value):D b->(∀a∈cs,a.cell=true)->(∀j,j<cs.length->w.cell? ⟨b,o+j,none⟩=some (vs j))->
   (∀j a,cs[j]? =some a->jK P w D a (vs j))->jK P w D (.cN cs) (.pointer (some ⟨b,o,none⟩))
 |agg (cs) (vs:Array Value) (f:Nat->Value):vs.size=cs.length->(∀a∈cs,a.cell=true)->(∀j,j<cs.length->vs[j]? =some (f j))->(∀j a,cs[j]? =some a->jK P w D a (f j))->jK P w D (.agg cs) (.agg vs)
 |fn (f cU) (vs:Array Value) (g:Nat->Value):fD P f=true->vs.size=cU.length->(∀j,j<cU.length->vs[j]? =some (g j))->(∀j a,cU[j]? =some a->jK P w D a (g j))->jK P w D (.fn f cU) (.func (.func f) #[] vs)
 |jl:jK P w D .jl (.map none)
inductive BK where
 |map (m:MK)
 |chan (cap:Nat)
structure r9 where
 b:Nat
 sz:Nat
 C:Nat
 k:Option BK
abbrev Names:=Id->Option r9
inductive cV (P:Program) (w:World) (D:Nat->Prop) (ι:Names):AV->Value->Prop
 |eH (a v):jK P w D a v->cV P w D ι a v
 |own (id off len o cap B):ι id=some B->B.k=none->len<=cap->(cap=0∨o=off*B.sz)->(off+cap)*B.sz<=B.C->cap<=maxLen->cV P w D ι (.own id off len) (.slice (some ⟨B.b,o,none⟩) len cap)
 |ptr (id i off B):ι id=some B->B.k=none->cV P w D ι (.ptr id i off) (.pointer (some ⟨B.b,i*B.sz+off,none⟩))
 |agg (cs) (vs:Array Value) (f:Nat->Value):vs.size=cs.length->(∀a∈cs,a.cell=true)->(∀j,j<cs.length->vs[j]? =some (f j))->(∀j a,cs[j]? =some a->cV P w D ι a (f j))->cV P w D ι (.agg cs) (.agg vs)
 |ij (cs) (vs:Array Value) (f:Nat->Value):vs.size=cs.length->(∀j,j<cs.length->vs[j]? =some (f j))->(∀j a,cs[j]? =some a->cV P w D ι a (f j))->cV P w D ι (.ij cs) (.tuple vs)
 |fn (f cU) (vs:Array Value) (g:Nat->Value):fD P f=true->vs.size=cU.length->(∀j,j<cU.length->vs[j]? =some (g j))->(∀j a,cU[j]? =some a->cV P w D ι a (g j))->cV P w D ι (.fn f cU) (.func (.func f) #[] vs)
 |rm (id c B):ι id=some B->B.k=some (.chan c)->cV P w D ι (.rm id) (.chan (some B.b))
 |map (id m B):ι id=some B->B.k=some (.map m)->cV P w D ι (.map id m) (.map (some B.b))
 |tC (f cU) (vs:Array Value) (g:Nat->Value):fD P f=true->vs.size=cU.length->(∀j,j<cU.length->vs[j]? =some (g j))->(∀j a,cU[j]? =some a->cV P w D ι a (g j))->cV P w D ι (.tC f cU) (.func (.func f) vs #[])
variable {P:Program} {w w':World} {D D':Nat->Prop} {ι ι':Names}
theorem jK.frame (hD:∀b,D b->w'.heap[b]? =w.heap[b]?) (hs:∀b,D b->D' b) {a:AV} {v:Value} (h:jK P w D a v):jK P w' D' a v:=by
 induction h with
 |int k n=>exact .int k n
 |bool b=>exact .bool b
 |str s=>exact .str s
 |bP=>exact .bP
 |gI=>exact .gI
 |jc=>exact .jc
 |jl=>exact .jl
 |BI a c h=>exact .BI a c h
 |sl rows b o n c sz vs h1 h2 h3 h4 h5 h5' h6 _ ih=>exact .sl rows b o n c sz vs h1 h2 h3 (hs b h4) h5 h5' (fun i j hi hj=>(World.cell?_of_block (hD b h4)).trans (h6 i j hi hj)) ih
 |cN cs b o vs h1 PA h2 _ ih=>exact .cN cs b o vs (hs b h1) PA (fun j hj=>(World.cell?_of_block (hD b h1)).trans (h2 j hj)) ih
 |agg cs vs f h1 h2 h3 _ ih=>exact .agg cs vs f h1 h2 h3 ih
 |fn f cU vs g h1 h2 h3 _ ih=>exact .fn f cU vs g h1 h2 h3 ih
theorem cV.frame (hD:∀b,D b->w'.heap[b]? =w.heap[b]?) (hs:∀b,D b->D' b) (hι:∀id B,ι id=some B->ι' id=some B) {a:AV} {v:Value} (h:cV P w D ι a v):cV P w' D' ι' a v:=by
 induction h with
 |eH a v h=>exact .eH a v (h.frame hD hs)
 |map id m B h1 h2=>exact .map id m B (hι _ _ h1) h2
 |rm id c B h1 h2=>exact .rm id c B (hι _ _ h1) h2
 |own id off len o cap B h1 h2 h3 h4 h5 h6=>exact .own id off len o cap B (hι _ _ h1) h2 h3 h4 h5 h6
 |ptr id i off B h1 h2=>exact .ptr id i off B (hι _ _ h1) h2
 |agg cs vs f h1 h2 h3 _ ih=>exact .agg cs vs f h1 h2 h3 ih
 |ij cs vs f h1 h2 _ ih=>exact .ij cs vs f h1 h2 ih
 |fn f cU vs g h1 h2 h3 _ ih=>exact .fn f cU vs g h1 h2 h3 ih
 |tC f cU vs g h1 h2 h3 _ ih=>exact .tC f cU vs g h1 h2 h3 ih
theorem cV.undef:cV P w D ι .undef Go.undef:=.ij [] #[] (fun _=>Go.undef) rfl (fun j hj=>by simp at hj) (fun j a h=>by simp at h)
theorem uS (c:K):cV P w D ι c.av c.val:=by
 cases c with
 |int k n=>exact .eH _ _ (.int k n)
 |bool b=>exact .eH _ _ (.bool b)
 |str l=>exact .eH _ _ (.str _)
 |bP=>exact .eH _ _ .bP
 |gI=>exact .eH _ _ .gI
 |jc=>exact .eH _ _ .jc
 |jl=>exact .eH _ _ .jl
theorem K.l6 (c:K):c.av.cell=true:=by cases c<;>rfl
theorem yF {v:Value} {c:K} (h:FF v=some c):v=c.val:=by
 unfold FF at h
 split at h<;>simp at h<;>subst h<;>rfl
theorem cV.zO {a:AV} {v:Value} (h:cV P w D ι a v) (hc:a.cell=true):v.cells= #[v]/\(∀vs,v≠.agg vs)/\(∀vs,v≠.tuple vs):=by
 cases h with
 |eH a v h=>cases h<;>simp_all [AV.cell,Value.cells]
 |own=>simp[Value.cells]
 |map=>simp[Value.cells]
 |rm=>simp[Value.cells]
 |ptr=>simp[Value.cells]
 |agg=>simp[AV.cell]at hc
 |ij=>simp[AV.cell]at hc
 |fn=>simp[Value.cells]
 |tC=>simp[Value.cells]
theorem cV.cells {a:AV} {v:Value} (h:cV P w D ι a v) (ha:a.cells.all AV.cell=true):v.cells.size=a.cells.length/\∃f:Nat->Value,(∀j,j<a.cells.length->v.cells[j]? =some (f j))/\∀j x,a.cells[j]? =some x->cV P w D ι x (f j):=by
 have one:∀(a:AV) (v:Value),a.cell=true->a.cells=[a]->cV P w D ι a v->v.cells.size=a.cells.length/\∃f:Nat->Value,(∀j,j<a.cells.length->v.cells[j]? =some (f j))/\∀j x,a.cells[j]? =some x->cV P w D ι x (f j):=by
  intro a v hc di h
  obtain⟨h1,_,_⟩:=h.zO hc
  rw[h1,di]
  refine⟨rfl,fun _=>v,fun j hj=>?_,fun j x hx=>?_⟩
  ·have:j=0:=by simp at hj;omega
   subst this;rfl
  ·cases j with
   |zero=>simp at hx;subst hx;exact h
   |succ j=>simp at hx
 cases h with
 |eH a v h=>
  cases h with
  |agg cs vs f h1 h2 h3 h4=>exact⟨h1,f,h3,fun j x hx=>.eH _ _ (h4 j x hx)⟩
  |_=>exact one _ _ rfl rfl (.eH _ _ (by constructor<;>assumption))
 |own id off len o cap B h1 h2 h3 h4 h5 h6=>exact one _ _ rfl rfl (.own id off len o cap B h1 h2 h3 h4 h5 h6)
 |ptr id i off B h1 h2=>exact one _ _ rfl rfl (.ptr id i off B h1 h2)
 |map id m B h1 h2=>exact one _ _ rfl rfl (.map id m B h1 h2)
 |rm id c B h1 h2=>exact one _ _ rfl rfl (.rm id c B h1 h2)
 |agg cs vs f h1 h2 h3 h4=>exact⟨h1,f,h3,h4⟩
 |ij cs vs f h1 h2 h3=>simp[AV.cells,AV.cell]at ha
 |fn f cU vs g h1 h2 h3 h4=>exact one _ _ rfl rfl (.fn f cU vs g h1 h2 h3 h4)
 |tC f cU vs g h1 h2 h3 h4=>exact one _ _ rfl rfl (.tC f cU vs g h1 h2 h3 h4)
structure kT (P:Program) (w:World) (D:Nat->Prop) (ι:Names) (B:r9) (r:Row):Prop where
 sz:B.sz=r.sz
 wL:∃cells T,w.heap[B.b]? =some (.cells cells T (0,0))/\cells.size=B.C
 fits:r.rows.length*r.sz<=B.C
 len:∀cs∈r.rows,cs.length=r.sz
 flat:∀cs∈r.rows,∀a∈cs,a.cell=true
 at_:∀i j cs a,r.rows[i]? =some cs->cs[j]? =some a->∃v,w.cell? ⟨B.b,i*r.sz+j,none⟩=some v/\cV P w D ι a v
def Mg (es:Array MapEntry) (clock:Nat):Prop:=(∀x∈es.toList,x.born<clock)/\(es.toList.map (·.born)).Nodup
def Lk (P:Program) (w:World) (D:Nat->Prop) (ι:Names) (B:r9) (m:MK) (r:Row):Prop:=
 ∃(es:Array MapEntry) (clock:Nat),w.heap[B.b]? =some (.map es clock)/\es.size=r.rows.length/\((∀cs∈r.rows,cs.length=m.ks+1)/\Mg es clock)/\
  ∀(i:Nat) (cs:List AV),r.rows[i]? =some cs->∃(e:MapEntry) (kv vv:AV),es[i]? =some e/\part m.ka m.ks cs=some kv/\cs[m.ks]? =some vv/\cV P w D ι kv e.key/\cV P w D ι vv e.val
def GJ (P:Program) (w:World) (D:Nat->Prop) (ι:Names) (B:r9) (c:Nat) (r:Row):Prop:=
 ∃(buf:Array Value) (s q:Nat),w.heap[B.b]? =some (.chan c buf false s q false)/\buf.size=r.rows.length/\
  ∀(i:Nat) (cs:List AV),r.rows[i]? =some cs->∃(a:AV) (u:Value),cs=[a]/\buf[i]? =some u/\cV P w D ι a u
structure iq (P:Program) (w:World) (D:Nat->Prop) (ι:Names) (B:r9) (r:Row):Prop where
 sz:B.sz=r.sz
 flat:∀cs∈r.rows,∀a∈cs,a.cell=true
 row:B.k=none->kT P w D ι B r
 map:∀m,B.k=some (.map m)->r.sz=m.y7/\Lk P w D ι B m r
 chan:∀c,B.k=some (.chan c)->r.sz=qg+c/\GJ P w D ι B c r
theorem kT.obj {B:r9} {r:Row} (R:kT P w D ι B r) (h:B.k=none):iq P w D ι B r:=⟨R.sz,R.flat,fun _=>R,fun m hm=>(by rw[h]at hm;cases hm),fun m hm=>by rw[h]at hm;cases hm⟩
theorem iq.flag {B:r9} {r:Row} (R:iq P w D ι B r) (b:Bool):iq P w D ι B {r with w:=b}:=⟨R.sz,R.flat,fun h=>⟨R.sz,(R.row h).wL,(R.row h).fits,(R.row h).len,R.flat,(R.row h).at_⟩,R.map,R.chan⟩
theorem iq.KF {B:r9} {r:Row} (R:iq P w D ι B r) {c:Array Value} {T:TypeId} {z:Nat×Nat} (h:w.heap[B.b]? =some (.cells c T z)):B.k=none:=by
 cases hk:B.k with
 |none=>rfl
 |some m=>
  cases m with
  |map m=>obtain⟨_,es,c,h3,_⟩:=R.map m hk;rw[h]at h3;cases h3
  |chan c=>obtain⟨_,buf,s,q,h3,_⟩:=R.chan c hk;rw[h]at h3;cases h3
theorem iq.lt {B:r9} {r:Row} (R:iq P w D ι B r):B.b<w.heap.size:=by
 cases h:B.k with
 |none=>
  obtain⟨c,T,h3,_⟩:=(R.row h).wL
  exact(Array.getElem?_eq_some_iff.1 h3).1
 |some m=>
  cases m with
  |map m=>obtain⟨_,es,c,h3,_⟩:=R.map m h;exact(Array.getElem?_eq_some_iff.1 h3).1
  |chan c=>obtain⟨_,buf,s,q,h3,_⟩:=R.chan c h;exact(Array.getElem?_eq_some_iff.1 h3).1
structure gp (P:Program) (hs:Nat) (D:Nat->Prop) (ι:Names) (g:Rows) (w:World):Prop where
 lo:hs<=w.heap.size
 dead:∀b,D b->b<w.heap.size
 row:∀id r,g id=some r->∃B,ι id=some B/\iq P w D ι B r/\(r.w=true->hs<=B.b)/\(r.w=true->¬D B.b)
 inj:∀id ki r r' B B',g id=some r->g ki=some r'->r.w=true->ι id=some B->ι ki=some B'->B.b=B'.b->id=ki
def Used (ι:Names) (n:Nat) (U:Nat->Prop):Prop:=∀id,ι id≠none->id.bW<n∨(id.bW=n/\U id.site)
structure Step (hs:Nat) (D:Nat->Prop) (ι:Names) (w:World) (D':Nat->Prop) (ι':Names) (w':World):Prop where
 below:Below hs w w'
 rP:∀b,D b->w'.heap[b]? =w.heap[b]?
 dead:∀b,D b->D' b
 names:∀id B,ι id=some B->ι' id=some B
 new:∀b,D' b->D b∨hs<=b
theorem Step.refl (hs:Nat) (D:Nat->Prop) (ι:Names) (w:World):Step hs D ι w D ι w:=⟨Below.refl _ _,fun _ _=>rfl,fun _ h=>h,fun _ _ h=>h,fun _ h=>.inl h⟩
theorem Step.trans {hs:Nat} {D D' D'':Nat->Prop} {ι ι' Q8:Names} {w w' Ju:World} (h:Step hs D ι w D' ι' w') (k:Step hs D' ι' w' D'' Q8 Ju):Step hs D ι w D'' Q8 Ju:=
 ⟨h.below.trans k.below,fun b hb=>(k.rP b (h.dead b hb)).trans (h.rP b hb),fun b hb=>k.dead b (h.dead b hb),fun id B hB=>k.names id B (h.names id B hB),fun b hb=>by
  rcases k.new b hb with hb|hb
  ·exact h.new b hb
  ·exact .inr hb⟩
theorem Step.rep {hs:Nat} {D D':Nat->Prop} {ι ι':Names} {w w':World} (h:Step hs D ι w D' ι' w') {a:AV} {v:Value} (hr:cV P w D ι a v):cV P w' D' ι' a v:=hr.frame h.rP h.dead h.names
theorem dh {k n} {v:Value} (h:cV P w D ι (.int k n) v):v=.int k n:=by
 cases h with
 |eH _ _ h=>cases h;rfl
theorem eP {b} {v:Value} (h:cV P w D ι (.bool b) v):v=.bool b:=by
 cases h with
 |eH _ _ h=>cases h;rfl
theorem fq {s} {v:Value} (h:cV P w D ι (.str s) v):v=.string s:=by
 cases h with
 |eH _ _ h=>cases h;rfl
theorem jd {v:Value} (h:cV P w D ι .bP v):v=.slice none 0 0:=by
 cases h with
 |eH _ _ h=>cases h;rfl
theorem uT {v:Value} (h:cV P w D ι .jc v):v=.nilFunc:=by
 cases h with
 |eH _ _ h=>cases h;rfl
theorem iA {cs} {v:Value} (h:cV P w D ι (.agg cs) v):∃(vs:Array Value) (f:Nat->Value),v=.agg vs/\vs.size=cs.length/\(∀a∈cs,a.cell=true)/\(∀j,j<cs.length->vs[j]? =some (f j))/\∀j a,cs[j]? =some a->cV P w D ι a (f j):=by
 cases h with
 |eH _ _ h=>
  cases h with
  |agg cs vs f h1 h2 h3 h4=>exact⟨vs,f,rfl,h1,h2,h3,fun j a h=>.eH _ _ (h4 j a h)⟩
 |agg cs vs f h1 h2 h3 h4=>exact⟨vs,f,rfl,h1,h2,h3,h4⟩
theorem tE {cs} {v:Value} (h:cV P w D ι (.ij cs) v):∃(vs:Array Value) (f:Nat->Value),v=.tuple vs/\vs.size=cs.length/\(∀j,j<cs.length->vs[j]? =some (f j))/\∀j a,cs[j]? =some a->cV P w D ι a (f j):=by
 cases h with
 |eH _ _ h=>cases h
 |ij cs vs f h1 h2 h3=>exact⟨vs,f,rfl,h1,h2,h3⟩
theorem yZ {f cU} {v:Value} (h:cV P w D ι (.fn f cU) v):∃(vs:Array Value) (g:Nat->Value),v=.func (.func f) #[] vs/\fD P f=true/\vs.size=cU.length/\(∀j,j<cU.length->vs[j]? =some (g j))/\∀j a,cU[j]? =some a->cV P w D ι a (g j):=by
 cases h with
 |eH _ _ h=>
  cases h with
  |fn f cU vs g h1 h2 h3 h4=>exact⟨vs,g,rfl,h1,h2,h3,fun j a h=>.eH _ _ (h4 j a h)⟩
 |fn f cU vs g h1 h2 h3 h4=>exact⟨vs,g,rfl,h1,h2,h3,h4⟩
theorem Iw {v:Value} (h:cV P w D ι .gI v):v=.pointer none:=by
 cases h with
 |eH _ _ h=>cases h;rfl
theorem Bd {v:Value} (h:cV P w D ι .jl v):v=.map none:=by
 cases h with
 |eH _ _ h=>cases h;rfl
theorem KX {f cU} {v:Value} (h:cV P w D ι (.tC f cU) v):∃(vs:Array Value) (g:Nat->Value),v=.func (.func f) vs #[]/\fD P f=true/\vs.size=cU.length/\(∀j,j<cU.length->vs[j]? =some (g j))/\∀j a,cU[j]? =some a->cV P w D ι a (g j):=by
 cases h with
 |eH _ _ h=>cases h
 |tC f cU vs g h1 h2 h3 h4=>exact⟨vs,g,rfl,h1,h2,h3,h4⟩
theorem iC {id off len} {v:Value} (h:cV P w D ι (.own id off len) v):∃o cap B,v=.slice (some ⟨B.b,o,none⟩) len cap/\ι id=some B/\len<=cap/\(cap=0∨o=off*B.sz)/\(off+cap)*B.sz<=B.C/\cap<=maxLen/\B.k=none:=by
 cases h with
 |eH _ _ h=>cases h
 |own id off len o cap B h1 h2 h3 h4 h5 h6=>exact⟨o,cap,B,rfl,h1,h3,h4,h5,h6,h2⟩
theorem je {id i off} {v:Value} (h:cV P w D ι (.ptr id i off) v):∃B,v=.pointer (some ⟨B.b,i*B.sz+off,none⟩)/\ι id=some B/\B.k=none:=by
 cases h with
 |eH _ _ h=>cases h
 |ptr id i off B h1 h2=>exact⟨B,rfl,h1,h2⟩
theorem KU {id} {v:Value} (h:cV P w D ι (.rm id) v):∃B c,v=.chan (some B.b)/\ι id=some B/\B.k=some (.chan c):=by
 cases h with
 |eH _ _ h=>cases h
 |rm id c B h1 h2=>exact⟨B,c,rfl,h1,h2⟩
theorem KW {id m} {v:Value} (h:cV P w D ι (.map id m) v):∃B,v=.map (some B.b)/\ι id=some B/\B.k=some (.map m):=by
 cases h with
 |eH _ _ h=>cases h
 |map id m B h1 h2=>exact⟨B,rfl,h1,h2⟩
theorem ku {cs} {v:Value} (h:cV P w D ι (.cN cs) v):∃b o,∃vs:Nat->Value,v=.pointer (some ⟨b,o,none⟩)/\D b/\(∀a∈cs,a.cell=true)/\(∀j,j<cs.length->w.cell? ⟨b,o+j,none⟩=some (vs j))/\∀j a,cs[j]? =some a->jK P w D a (vs j):=by
 cases h with
 |eH _ _ h=>
  cases h with
  |cN cs b o vs h1 h2 h3 h4=>exact⟨b,o,vs,rfl,h1,h2,h3,h4⟩
theorem uU {rows} {v:Value} (h:cV P w D ι (.sl rows) v):∃A c,v=.slice A rows.length c/\rows.length<=c/\c<=maxLen/\
  (rows=[]∨∃b o sz,∃vs:Nat->Nat->Value,A=some ⟨b,o,none⟩/\D b/\(∀cs∈rows,cs.length=sz)/\(∀cs∈rows,∀a∈cs,a.cell=true)/\
   (∀i j,i<rows.length->j<sz->w.cell? ⟨b,o+(i*sz+j),none⟩=some (vs i j))/\∀i j cs a,rows[i]? =some cs->cs[j]? =some a->jK P w D a (vs i j)):=by
 cases h with
 |eH _ _ h=>
  cases h with
  |BI a c h=>exact⟨a,c,rfl,Nat.zero_le _,h,.inl rfl⟩
  |sl rows b o n c sz vs h1 h2 h3 h4 h5 h5' h6 h7=>subst h1;exact⟨_,c,rfl,h2,h3,.inr ⟨b,o,sz,vs,rfl,h4,h5,h5',h6,h7⟩⟩
inductive eC:AV->Prop
 |int (k n):eC (.int k n)
 |bool (b):eC (.bool b)
 |str (s):eC (.str s)
 |bP:eC .bP
 |gI:eC .gI
 |jc:eC .jc
 |sl (rows):rows.length<=maxLen->(∀cs∈rows,∀a∈cs,eC a)->eC (.sl rows)
 |own (id off len):eC (.own id off len)
 |ptr (id i off):eC (.ptr id i off)
 |cN (cs):(∀a∈cs,eC a)->eC (.cN cs)
 |agg (cs):(∀a∈cs,eC a)->eC (.agg cs)
 |ij (cs):(∀a∈cs,eC a)->eC (.ij cs)
 |fn (f cU):(∀a∈cU,eC a)->eC (.fn f cU)
 |map (id m):eC (.map id m)
 |rm (id):eC (.rm id)
 |jl:eC .jl
 |tC (f cU):(∀a∈cU,eC a)->eC (.tC f cU)
theorem eC.len {rows:List (List AV)} (h:eC (.sl rows)):rows.length<=9223372036854775807:=by
 cases h with
 |sl _ h _=>unfold maxLen at h;omega
theorem eC.Mj {cs:List AV} (h:eC (.agg cs)) {a:AV} (ha:a∈cs):eC a:=by
 cases h with
 |agg _ h=>exact h a ha
theorem eC.AE {cs:List AV} (h:eC (.cN cs)) {a:AV} (ha:a∈cs):eC a:=by
 cases h with
 |cN _ h=>exact h a ha
theorem nW {l:List AV} {p:AV->Prop} (h:∀(j:Nat) (a:AV),l[j]? =some a->p a):∀a∈l,p a:=fun a ha=>by
 obtain⟨j,hj,rfl⟩:=List.getElem_of_mem ha
 exact h j _ (List.getElem?_eq_getElem hj)
theorem jK.H5 {a:AV} {v:Value} (h:jK P w D a v):eC a:=by
 induction h with
 |int k n=>exact .int k n
 |bool b=>exact .bool b
 |str s=>exact .str s
 |bP=>exact .bP
 |gI=>exact .gI
 |jc=>exact .jc
 |jl=>exact .jl
 |BI a c h=>exact .sl [] (Nat.zero_le _) (fun cs h=>by cases h)
 |sl rows b o n c sz vs h1 h2 h3 h4 h5 h5' h6 _ ih=>
  exact .sl rows (by omega) fun cs di a ha=>by
   obtain⟨i,hi,rfl⟩:=List.getElem_of_mem di
   obtain⟨j,hj,rfl⟩:=List.getElem_of_mem ha
   exact ih i j _ _ (List.getElem?_eq_getElem hi) (List.getElem?_eq_getElem hj)
 |cN cs b o vs h1 PA h2 _ ih=>exact .cN cs (nW ih)
 |agg cs vs f h1 h2 h3 _ ih=>exact .agg cs (nW ih)
 |fn f cU vs g h1 h2 h3 _ ih=>exact .fn f cU (nW ih)
theorem cV.H5 {a:AV} {v:Value} (h:cV P w D ι a v):eC a:=by
 induction h with
 |eH a v h=>exact h.H5
 |own id off len o cap B=>exact .own _ _ _
 |ptr id i off B=>exact .ptr _ _ _
 |map id m B=>exact .map _ _
 |rm id c B=>exact .rm _
 |agg cs vs f h1 h2 h3 _ ih=>exact .agg cs (nW ih)
 |ij cs vs f h1 h2 _ ih=>exact .ij cs (nW ih)
 |fn f cU vs g h1 h2 h3 _ ih=>exact .fn f cU (nW ih)
 |tC f cU vs g h1 h2 h3 _ ih=>exact .tC f cU (nW ih)
end Go.Proofs.YtgoljkjaameagaaGreat.V

namespace Go.Proofs.YtgoljkjaameagaaGreat.V
open Go.RowKit
variable {P:Program} {w w':World} {D D':Nat->Prop} {ι ι':Names}
def cF (P:Program) (w:World) (D:Nat->Prop) (ι:Names) (env:Env) (a:Act):Prop:=∀t,cV P w D ι (env t) (a.tmps.getD t undef)
theorem qx {vs:List Value} {cs:List K} (h:vs.mapM FF=some cs):cs.length=vs.length/\∀(j:Nat) (c:K),cs[j]? =some c->vs[j]? =some c.val:=by
 induction vs generalizing cs with
 |nil=>simp at h;subst h;simp
 |cons v r ih=>
  simp only[List.mapM_cons,Option.bind_eq_bind,Option.bind_eq_some_iff]at h
  obtain⟨c,hc,o5,di,h⟩:=h
  simp at h;subst h
  obtain⟨h1,h2⟩:=ih di
  refine⟨by simp[h1],fun j d hd=>?_⟩
  cases j with
  |zero=>simp at hd ⊢;subst hd;exact yF hc
  |succ j=>simp at hd ⊢;exact h2 j d hd
theorem TI {vs:List Value} {cs:List K} (h:vs.mapM FF=some cs):cV P w D ι (.agg (cs.map K.av)) (.agg vs.toArray):=by
 obtain⟨h1,h2⟩:=qx h
 refine .agg _ _ (fun j=>vs.getD j undef) (by simp[h1]) (fun a ha=>?_) (fun j hj=>?_) (fun j a ha=>?_)
 ·obtain⟨c,_,rfl⟩:=List.mem_map.1 ha;exact c.l6
 ·simp at hj;simp[List.getElem?_eq_getElem (show j<vs.length by omega)]
 ·simp only[List.getElem?_map,Option.map_eq_some_iff]at ha
  obtain⟨c,hc,rfl⟩:=ha
  rw[List.getD_eq_getElem?_getD,h2 j c hc];exact uS c
theorem cZ {env:Env} {a:Act} {x:Operand} {y:O} (E:cF P w D ι env a) (h:cO P x=some y):cV P w D ι (cJ env y) (a.eval x):=by
 unfold cO at h
 split at h
 ·simp at h;subst h;exact E _
 ·simp only[Option.map_eq_some_iff]at h
  obtain⟨cs,di,rfl⟩:=h
  have:=TI (P:=P) (w:=w) (D:=D) (ι:=ι) di
  simpa[Act.eval,cJ]using this
 ·simp only[Option.map_eq_some_iff]at h
  obtain⟨c,hc,rfl⟩:=h
  simp only[Act.eval,cJ]
  rw[yF hc];exact uS c
 ·simp at h
 ·split at h
  ·rename_i hc
   simp at h;subst h
   simp only[Act.eval,cJ]
   exact .fn _ _ _ (fun _=>undef) hc rfl (fun j hj=>by simp at hj) (fun j a h=>by simp at h)
  ·simp at h
def nz (P:Program) (a:Act) (o:Oper) (w:World) (D:Nat->Prop) (ι:Names) (v:AV):Prop:=∃u,(execOp a.eval o).run P w=.ok (.value u) w/\cV P w D ι v u
section
variable {g:Rows} {hs:Nat} {env:Env} {a:Act} {o:Oper} {id:Id} {v:AV}
theorem L9 {x:Operand} {y:O} (E:cF P w D ι env a) (ho:o.op=.move x∨o.op=.assign x) (hx:cO P x=some y):nz P a o w D ι (cJ env y):=by
 refine⟨a.eval x,?_,cZ E hx⟩
 rcases ho with h|h<;>simp[execOp,h,go_sem]
theorem Ow {c x y:Operand} {c' x' y':O} (E:cF P w D ι env a) (ho:o.op=.pick c x y) (hc:cO P c=some c') (hx:cO P x=some x') (hy:cO P y=some y') (hv:cD (cJ env c') (cJ env x') (cJ env y')=some v):nz P a o w D ι v:=by
 unfold cD at hv
 split at hv
 ·rename_i b hb
  simp at hv;subst hv
  have h1:=eP (hb▸cZ E hc)
  refine⟨if b then a.eval x else a.eval y,by simp only[execOp,ho,h1,asBool];rfl,?_⟩
  cases b
  ·exact cZ E hy
  ·exact cZ E hx
 ·simp at hv
theorem QY {op:BinOp} {x y:Operand} {x' y':O} {t yt:TypeId} (E:cF P w D ι env a) (ho:o.op=.binOp op t x y yt) (he:op≠.eql) (hn:op≠.neq) (hx:cO P x=some x') (hy:cO P y=some y') (hv:dr op (cJ env x') (cJ env y')=some v):nz P a o w D ι v:=by
 unfold dr at hv
 split at hv
 ·rename_i k n k' m hb rG
  split at hv
  ·rename_i hk
   subst hk
   have h1:=dh (hb▸cZ E hx)
   have h2:=dh (rG▸cZ E hy)
   have key:∀u,(binOp op t (.int k n) (.int k m)).run P w=.ok u w->(execOp a.eval o).run P w=.ok (.value u) w:=fun u hu=>by
    have e0:eqGuard op t x y (.int k n) (.int k m)=pure ():=by unfold eqGuard;cases op<;>rfl
    simp only[execOp,ho,h1,h2,e0]
    simp[go_sem,hu]
   cases op<;>simp only[cX]at hv<;>(try(simp at hv;done))<;>(try split at hv)<;>(try(simp at hv;done))<;>simp only[Option.some.injEq]at hv<;>subst hv<;>
    (refine⟨_,key _ (by simp only[binOp,ne_eq,not_true_eq_false,if_false,Op.intArith,Op.intDiv,Op.intBits,Op.intCmp, *];rfl),?_⟩)<;>
    first
     |exact .eH _ _ (.int _ _)
     |exact .eH _ _ (.bool _)
  ·simp at hv
 ·simp at hv
theorem Oe {op:BinOp} {x y:Operand} {x' y':O} {t yt:TypeId} (E:cF P w D ι env a) (ho:o.op=.binOp op t x y yt) (he:op≠.eql) (hn:op≠.neq) (hx:cO P x=some x') (hy:cO P y=some y') (hv:cE op (cJ env x') (cJ env y')=some v):nz P a o w D ι v:=by
 unfold cE at hv
 split at hv
 ·rename_i n m hb rG
  have h1:=fq (hb▸cZ E hx)
  have h2:=fq (rG▸cZ E hy)
  cases op<;>simp only[dD]at hv<;>(try(simp at hv;done))
  case add=>
   split at hv
   ·rename_i hl
    simp only[Option.some.injEq]at hv;subst hv
    exact⟨_,by simp only[execOp,ho,h1,h2];simp[eqGuard,binOp,go_sem];exact hl,.eH _ _ (.str _)⟩
   ·simp at hv
  all_goals
   simp only[Option.some.injEq]at hv;subst hv
   exact⟨_,by simp only[execOp,ho,h1,h2];simp[eqGuard,binOp,Op.stringOp,go_sem],.eH _ _ (.bool _)⟩
 ·simp at hv
theorem EA (n m:ByteArray):(n.toList==m.toList)=decide (n=m):=by
 rw[ByteArray.toList_eq,ByteArray.toList_eq]
 by_cases h:n=m
 ·subst h;simp
 ·have:n.data.toList≠m.data.toList:=fun he=>h (ByteArray.ext (Array.ext' he))
  rw[decide_eq_false h];exact beq_eq_false_iff_ne.2 this
theorem oH {t:TypeId} (h:e9 P t=some .tB):P.underlying t=some .bool:=by unfold e9 at h;split at h<;>simp_all
theorem oI {t:TypeId} (h:e9 P t=some .tI):∃k,P.underlying t=some (.int k):=by unfold e9 at h;split at h<;>simp_all
theorem oJ {t:TypeId} (h:e9 P t=some .tS):P.underlying t=some .string:=by unfold e9 at h;split at h<;>simp_all
theorem qG {d:Nat} {t:TypeId} {s:TS} {x y:AV} {u u':Value} {b:Bool} (hx:cV P w D ι x u) (hy:cV P w D ι y u') (hv:e6 s x y=some b) (ht:e9 P t=some s):(Op.equalIn (d+1) t u u').run P w=.ok b w:=by
 unfold e6 at hv
 split at hv
 ·rename_i k n k' m
  split at hv
  ·rename_i hk
   subst hk
   simp at hv;subst hv
   obtain⟨q,hq⟩:=oI ht
   rw[dh hx,dh hy,run_equalIn_int _ _ _ _ _ _ _ hq];rfl
  ·simp at hv
 ·simp at hv;subst hv
  rw[eP hx,eP hy,run_equalIn_bool' _ _ _ _ _ (oH ht)]
 ·simp at hv;subst hv
  rw[fq hx,fq hy,run_equalIn_string _ _ _ _ _ (oJ ht),EA]
 ·simp at hv
def eZ (P:Program) (w:World) (D:Nat->Prop) (ι:Names) (xs:List AV) (vs:Array Value):Prop:=vs.size=xs.length/\∀(j:Nat) (a:AV),xs[j]? =some a->∃u,vs[j]? =some u/\cV P w D ι a u
theorem eZ.part {xs:List AV} {vs:Array Value} (h:eZ P w D ι xs vs) (off n:Nat) (hn:off+n<=xs.length):eZ P w D ι ((xs.drop off).take n) (vs.extract off (off+n)):=by
 refine⟨by simp[h.1];omega,fun j a ha=>?_⟩
 rw[List.getElem?_take]at ha
 split at ha
 ·rename_i hj
  rw[List.getElem?_drop]at ha
  obtain⟨u,h1,h2⟩:=h.2 _ _ ha
  refine⟨u,?_,h2⟩
  rw[Array.getElem?_extract]
  rw[if_pos (by rw[h.1];omega),h1]
 ·simp at ha
theorem qh:∀{ts:List TS} {xs ys:List AV} {b:Bool},eF ts xs ys=some b->xs.length=ts.length/\ys.length=ts.length
 |[],[],[],_,_=>⟨rfl,rfl⟩
 |t::ts,x::xs,y::ys,b,h=>by
  unfold eF at h
  split at h
  ·rename_i c d h1 h2
   have:=qh h2
   simp[this.1,this.2]
  ·simp at h
 |[],[],_::_,_,h=>by simp[eF]at h
 |[],_::_,_,_,h=>by simp[eF]at h
 |_::_,[],_,_,h=>by simp[eF]at h
 |_::_,_::_,[],_,h=>by simp[eF]at h
theorem DV:∀{ts us:List TS} {xs ys:List AV} {b:Bool},eF (ts++us) xs ys=some b->∃c d,eF ts (xs.take ts.length) (ys.take ts.length)=some c/\eF us (xs.drop ts.length) (ys.drop ts.length)=some d/\b=(c&&d)
 |[],us,xs,ys,b,h=>⟨true,b,by simp[eF],by simpa using h,by simp⟩
 |t::ts,us,x::xs,y::ys,b,h=>by
  simp only[List.cons_append]at h
  unfold eF at h
  split at h
  ·rename_i c d h1 h2
   obtain⟨c',d',h3,h4,rfl⟩:=DV h2
   simp at h;subst h
   exact⟨c&&c',d',by simp[eF,h1,h3],by simpa using h4,by simp[Bool.and_assoc]⟩
  ·simp at h
 |t::ts,us,[],ys,b,h=>by simp[eF]at h
 |t::ts,us,x::xs,[],b,h=>by simp[eF]at h
theorem lQ {t:TypeId} {vs:Array Value} {off:Nat} {u:Value} (ha:mV P t=some false) (hu:vs[off]? =some u):(Go.part t vs off).run P w=.ok u w:=by
 unfold mV at ha
 have hi:(isAgg t).run P w=.ok false w:=by
  split at ha<;>simp at ha
  rename_i d h1 h2 hd
  simp only[isAgg,Sem.run_bind,run_underlying hd,Result.andThen_ok]
  cases d<;>simp_all
 simp[Go.part,hi,hu]
theorem rX {t:TypeId} {b:Bool} (ha:mV P t=some b):(isAgg t).run P w=.ok b w:=by
 unfold mV at ha
 split at ha<;>simp at ha<;>subst ha<;>rename_i hd<;>simp only[isAgg,Sem.run_bind,run_underlying hd,Result.andThen_ok]<;>(try simp)
theorem run_sizeOf {t:TypeId} {n:Nat} (h:dW P t=some n):(sizeOf t).run P w=.ok n w:=by
 unfold dW at h
 simp only[Option.map_eq_some_iff]at h
 obtain⟨i,hi,rfl⟩:=h
 simp[sizeOf,typeInfo,hi]
theorem oG {t:TypeId} {vs:Array Value} {off n:Nat} (ha:mV P t=some true) (hn:dW P t=some n):(Go.part t vs off).run P w=.ok (.agg (vs.extract off (off+n))) w:=by
 simp[Go.part,rX ha,run_sizeOf hn]
theorem Ho (d off:Nat):ez P (d+1) off []=some []:=rfl
theorem wW (d off:Nat) (f:Field) (r:List Field):ez P (d+1) off (f::r)=(if f.offset=off/\f.name≠ "_" then
   match e9 P f.type with
   |some t=>if mV P f.type=some false then(ez P (d+1) (off+1) r).map (t::·)else none
   |none=>match P.underlying f.type with
    |some (.struct fs)=>if !P.stoodInHeld f.type then match ez P d 0 fs.toList with
     |some ts=>if dW P f.type=some ts.length/\ts≠[]then(ez P (d+1) (off+ts.length) r).map (ts++·)else none
     |none=>none else none
    |_=>none
  else none):=rfl
theorem qF:∀(d:Nat) (fs:List Field) (off:Nat) (ts:List TS),ez P d off fs=some ts->∀(N:Nat) (_:d<=N) (xs ys:List AV) (vs us:Array Value) (b:Bool),eZ P w D ι xs vs->eZ P w D ι ys us->
  eF ts ((xs.drop off).take ts.length) ((ys.drop off).take ts.length)=some b->(Op.eqFields (N+1) vs us fs).run P w=.ok b w:=by
 intro d
 induction d with
 |zero=>
  intro fs off ts hf N _ xs ys vs us b _ _ he
  cases fs with
  |nil=>simp[ez]at hf;subst hf;simp[eF]at he;subst he;simp[Op.eqFields]
  |cons f r=>simp[ez]at hf
 |succ d ihd=>
  intro fs
  induction fs with
  |nil=>
   intro off ts hf N _ xs ys vs us b _ _ he
   rw[Ho]at hf;simp at hf;subst hf;simp[eF]at he;subst he;simp[Op.eqFields]
  |cons f r ih=>
   intro off ts hf N hN xs ys vs us b hx hy he
   rw[wW]at hf
   split at hf
   ·rename_i hcond
    obtain⟨ho,gF⟩:=hcond
    split at hf
    ·rename_i s hs
     split at hf
     ·rename_i tq
      simp only[Option.map_eq_some_iff]at hf
      obtain⟨L7,hr,rfl⟩:=hf
      obtain⟨l1,l2⟩:=qh he
      simp only[List.length_cons,List.length_take,List.length_drop]at l1 l2
      have yz:off<xs.length:=by omega
      have hyo:off<ys.length:=by omega
      rw[List.drop_eq_getElem_cons yz,List.drop_eq_getElem_cons hyo,List.length_cons,List.take_succ_cons,List.take_succ_cons]at he
      unfold eF at he
      split at he
      ·rename_i c d' h1 h2
       simp at he;subst he
       obtain⟨u,hu,ru⟩:=hx.2 off _ (List.getElem?_eq_getElem yz)
       obtain⟨u',Eg,ru'⟩:=hy.2 off _ (List.getElem?_eq_getElem hyo)
       have:=ih (off+1) L7 hr N hN xs ys vs us d' hx hy h2
       simp only[Op.eqFields,if_pos gF,Sem.run_bind,ho,lQ tq hu,lQ tq Eg,Result.andThen_ok,qG ru ru' h1 hs,Sem.run_ite]
       cases c<;>simp[this]
      ·simp at he
     ·simp at hf
    ·split at hf
     ·rename_i fs' ql
      split at hf
      ·rename_i er
       split at hf
       ·rename_i ts1 hts1
        split at hf
        ·rename_i fb
         simp only[Option.map_eq_some_iff]at hf
         obtain⟨L7,hr,rfl⟩:=hf
         obtain⟨c,d',h1,h2,rfl⟩:=DV he
         obtain⟨l1,l2⟩:=qh he
         simp only[List.length_append,List.length_take,List.length_drop]at l1 l2
         have tq:mV P f.type=some true:=by simp[mV,ql]
         have jZ:0<ts1.length:=List.length_pos_iff.2 fb.2
         have LR:off+ts1.length<=xs.length:=by omega
         have hy1:off+ts1.length<=ys.length:=by omega
         rw[List.drop_take,List.drop_drop,List.drop_take,List.drop_drop]at h2
         rw[List.take_take,List.take_take]at h1
         simp only[List.length_append]at h1 h2
         rw[Nat.min_eq_left (by omega)]at h1
         have e2:ts1.length+L7.length-ts1.length=L7.length:=by omega
         rw[e2]at h2
         have:=ih (off+ts1.length) L7 hr N hN xs ys vs us d' hx hy h2
         have fJ:=ihd fs'.toList 0 ts1 hts1 (N-1) (by omega) _ _ _ _ c (hx.part off ts1.length LR) (hy.part off ts1.length hy1) (by simpa[List.take_take]using h1)
         have hN':N-1+1=N:=by omega
         rw[hN']at fJ
         have Ly:P.fieldsOf f.type=fs':=by simp[Program.fieldsOf,ql]
         simp only[Op.eqFields,if_pos gF,Sem.run_bind,ho,oG tq fb.1,Result.andThen_ok,Sem.run_ite]
         rw[run_equalIn_struct w N f.type _ _ (by rw[Ly];exact ql) (by simpa using er),Ly,fJ]
         cases c<;>simp[this]
        ·simp at hf
       ·simp at hf
      ·simp at hf
     ·simp at hf
   ·simp at hf
theorem Q2 {x y:Operand} {x' y':O} {t yt:TypeId} {neg:Bool} {s:TS} {b:Bool} (E:cF P w D ι env a) (ho:o.op=.binOp (if neg then .neq else .eql) t x y yt) (hs:e9 P t=some s) (hx:cO P x=some x') (hy:cO P y=some y')
  (hv:e6 s (cJ env x') (cJ env y')=some b):nz P a o w D ι (.bool (cQ neg b)):=by
 have rx:=cZ E hx
 have ry:=cZ E hy
 refine⟨.bool (cQ neg b),?_,.eH _ _ (.bool _)⟩
 have e0:(eqGuard (if neg then .neq else .eql) t x y (a.eval x) (a.eval y)).run P w=.ok () w:=by
  unfold e6 at hv
  split at hv
  ·rename_i k n k' m h1 h2
   rw[h1]at rx;rw[h2]at ry
   rw[dh rx,dh ry];unfold eqGuard;cases neg<;>simp
  ·rename_i n m h1 h2
   rw[h1]at rx;rw[h2]at ry
   rw[eP rx,eP ry];unfold eqGuard;cases neg<;>simp
  ·rename_i n m h1 h2
   rw[h1]at rx;rw[h2]at ry
   rw[fq rx,fq ry];unfold eqGuard;cases neg<;>simp
  ·simp at hv
 have e1:(binOp (if neg then .neq else .eql) t (a.eval x) (a.eval y)).run P w=.ok (.bool (cQ neg b)) w:=by
  have q:=qG (d:=9999) rx ry hv hs
  unfold e6 at hv
  split at hv
  ·rename_i k n k' m h1 h2
   split at hv
   ·rename_i hk
    subst hk
    simp at hv;subst hv
    rw[h1]at rx;rw[h2]at ry
    rw[dh rx,dh ry]
    cases neg<;>simp only[binOp,ne_eq,not_true_eq_false,if_false,Op.intCmp,cQ,if_true,Bool.false_eq_true]<;>simp[bne]<;>rfl
   ·simp at hv
  ·rename_i n m h1 h2
   rw[h1]at rx;rw[h2]at ry
   rw[eP rx,eP ry]at q ⊢
   cases neg<;>simp only[binOp,cQ,if_true,Bool.false_eq_true,if_false,Sem.run_bind]<;>simp[Op.equal,Op.maxDepth,q]
  ·rename_i n m h1 h2
   simp at hv;subst hv
   rw[h1]at rx;rw[h2]at ry
   rw[fq rx,fq ry]
   cases neg<;>simp[binOp,Op.stringOp,cQ,EA]
  ·simp at hv
 simp only[execOp,ho,Sem.run_bind,e0,e1,Result.andThen_ok,Sem.run_pure]
theorem Q0 {x y:Operand} {x' y':O} {t yt:TypeId} {neg:Bool} {ts:List TS} {fs:Array Field} {xs ys:List AV} {b:Bool} (E:cF P w D ι env a) (ho:o.op=.binOp (if neg then .neq else .eql) t x y yt) (ql:P.underlying t=some (.struct fs)) (er:P.stoodInHeld t=false) (J5:P.eqGuardType P.depth t=false)
  (wb:ez P 4 0 fs.toList=some ts) (hx:cO P x=some x') (hy:cO P y=some y') (h1:cJ env x'=.agg xs) (h2:cJ env y'=.agg ys)
  (hv:eF ts xs ys=some b):nz P a o w D ι (.bool (cQ neg b)):=by
 obtain⟨vs,f,rx,n1,_,f1,r1⟩:=iA (h1▸cZ E hx)
 obtain⟨us,f',ry,n2,_,f2,r2⟩:=iA (h2▸cZ E hy)
 refine⟨.bool (cQ neg b),?_,.eH _ _ (.bool _)⟩
 obtain⟨l1,l2⟩:=qh hv
 have L:∀(xs:List AV) (vs:Array Value) (f:Nat->Value),vs.size=xs.length->(∀j,j<xs.length->vs[j]? =some (f j))->(∀j a,xs[j]? =some a->cV P w D ι a (f j))->eZ P w D ι xs vs:=fun xs vs f h1 h2 h3=>
  ⟨h1,fun j a ha=>⟨f j,h2 j (List.getElem?_eq_some_iff.1 ha).1,h3 j a ha⟩⟩
 have q:=qF (w:=w) 4 fs.toList 0 ts wb 9998 (by omega) xs ys vs us b (L _ _ _ n1 f1 r1) (L _ _ _ n2 f2 r2) (by simpa[List.take_of_length_le,l1,l2]using hv)
 have Ly:P.fieldsOf t=fs:=by simp[Program.fieldsOf,ql]
 have q2:(Op.equal t (.agg vs) (.agg us)).run P w=.ok b w:=by
  unfold Op.equal
  rw[show Op.maxDepth=9999+1 from rfl,run_equalIn_struct w 9999 t _ _ (by rw[Ly];exact ql) er,Ly,q]
 simp only[execOp,ho,Sem.run_bind,rx,ry,run_eqGuard_agg w _ _ _ _ _ _ J5,Result.andThen_ok]
 cases neg<;>simp[binOp,q2,cQ]
theorem Oh {x:Operand} {x':O} {t yt e:TypeId} {neg:Bool} {b:Bool} (E:cF P w D ι env a) (ho:o.op=.binOp (if neg then .neq else .eql) t x (.const (.slice none 0 0)) yt) (ht:P.underlying t=some (.slice e)) (hx:cO P x=some x')
  (hv:cC (cJ env x')=some b):nz P a o w D ι (.bool (cQ neg b)):=by
 have hr:=cZ E hx
 have rx:∃A n c,a.eval x=.slice A n c/\b=A.isNone:=by
  unfold cC at hv
  split at hv<;>simp at hv<;>subst hv<;>rename_i hh
  ·rw[hh]at hr;exact⟨_,_,_,jd hr,rfl⟩
  ·rw[hh]at hr;obtain⟨o,cap,B,h,_⟩:=iC hr
   exact⟨_,_,_,h,rfl⟩
  ·rw[hh]at hr
   obtain⟨A,c,h',_,_,h⟩:=uU hr
   rcases h with h|⟨b,o,sz,vs,rfl,_⟩
   ·simp at h
   ·exact⟨_,_,_,h',rfl⟩
 refine⟨.bool (cQ neg b),?_,.eH _ _ (.bool _)⟩
 obtain⟨A,n,c,h,rfl⟩:=rx
 have hq:(Op.equal t (.slice A n c) (.slice none 0 0)).run P w=.ok A.isNone w:=by
  unfold Op.equal
  rw[show Op.maxDepth=9999+1 from rfl,Op.equalIn]
  simp only[Sem.run_bind,run_underlying ht,Result.andThen_ok]
  cases A<;>rfl
 have hc:a.eval (.const (.slice none 0 0))=.slice none 0 0:=rfl
 simp only[execOp,ho,h,hc]
 cases neg<;>simp only[Bool.false_eq_true,if_false,if_true,Bool.not_true,Bool.not_false,eqGuard,binOp,cQ,Sem.run_bind,hq,Result.andThen_ok,Sem.run_pure]
theorem Q1 {x:Operand} {x':O} {t yt e:TypeId} {neg:Bool} {b:Bool} (E:cF P w D ι env a) (ho:o.op=.binOp (if neg then .neq else .eql) t x (.const (.pointer none)) yt) (ht:P.underlying t=some (.pointer e)) (hx:cO P x=some x')
  (hv:I2 (cJ env x')=some b):nz P a o w D ι (.bool (cQ neg b)):=by
 have hr:=cZ E hx
 have rx:∃A,a.eval x=.pointer A/\b=A.isNone:=by
  unfold I2 at hv
  split at hv<;>simp at hv<;>subst hv<;>rename_i hh
  ·rw[hh]at hr;exact⟨_,Iw hr,rfl⟩
  ·rw[hh]at hr;obtain⟨B,h,_⟩:=je hr
   exact⟨_,h,rfl⟩
  ·rw[hh]at hr;obtain⟨_,_,_,h,_⟩:=ku hr
   exact⟨_,h,rfl⟩
 refine⟨.bool (cQ neg b),?_,.eH _ _ (.bool _)⟩
 obtain⟨A,h,rfl⟩:=rx
 have hq:(Op.equal t (.pointer A) (.pointer none)).run P w=.ok A.isNone w:=by
  unfold Op.equal
  rw[show Op.maxDepth=9999+1 from rfl,Op.equalIn]
  simp only[Sem.run_bind,run_underlying ht,Result.andThen_ok]
  cases A<;>rfl
 have hc:a.eval (.const (.pointer none))=.pointer none:=rfl
 simp only[execOp,ho,h,hc]
 cases neg<;>simp only[Bool.false_eq_true,if_false,if_true,Bool.not_true,Bool.not_false,eqGuard,binOp,cQ,Sem.run_bind,hq,Result.andThen_ok,Sem.run_pure]
theorem Og {x:Operand} {x':O} {t yt:TypeId} {p r:Array TypeId} {va:Bool} {neg:Bool} {b:Bool} (E:cF P w D ι env a) (ho:o.op=.binOp (if neg then .neq else .eql) t x (.const .nilFunc) yt) (ht:P.underlying t=some (.func p r va)) (hx:cO P x=some x')
  (hv:cz (cJ env x')=some b):nz P a o w D ι (.bool (cQ neg b)):=by
 have hr:=cZ E hx
 have rx:a.eval x=.nilFunc/\b=true∨∃f c,a.eval x=.func f #[] c/\b=false:=by
  unfold cz at hv
  split at hv<;>simp at hv<;>subst hv<;>rename_i hh
  ·rw[hh]at hr;exact .inl ⟨uT hr,rfl⟩
  ·rw[hh]at hr;obtain⟨vs,g,h,_⟩:=yZ hr
   exact .inr ⟨_,_,h,rfl⟩
 refine⟨.bool (cQ neg b),?_,.eH _ _ (.bool _)⟩
 have hc:a.eval (.const .nilFunc)=.nilFunc:=rfl
 rcases rx with⟨h,rfl⟩|⟨f,c,h,rfl⟩
 ·have hq:(Op.equal t .nilFunc .nilFunc).run P w=.ok true w:=by
   unfold Op.equal
   rw[show Op.maxDepth=9999+1 from rfl,Op.equalIn]
   simp only[Sem.run_bind,run_underlying ht,Result.andThen_ok]
   rfl
  simp only[execOp,ho,h,hc]
  cases neg<;>simp only[Bool.false_eq_true,if_false,if_true,Bool.not_true,Bool.not_false,eqGuard,binOp,cQ,Sem.run_bind,hq,Result.andThen_ok,Sem.run_pure]
 ·have hq:(Op.equal t (.func f #[] c) .nilFunc).run P w=.ok false w:=by
   unfold Op.equal
   rw[show Op.maxDepth=9999+1 from rfl,Op.equalIn]
   simp only[Sem.run_bind,run_underlying ht,Result.andThen_ok]
   rfl
  simp only[execOp,ho,h,hc]
  cases neg<;>simp only[Bool.false_eq_true,if_false,if_true,Bool.not_true,Bool.not_false,eqGuard,binOp,cQ,Sem.run_bind,hq,Result.andThen_ok,Sem.run_pure]
theorem Q5 {x:Operand} {x':O} {t:TypeId} (E:cF P w D ι env a) (ho:o.op=.unOp .not t x) (hx:cO P x=some x') (hv:dy (cJ env x')=some v):nz P a o w D ι v:=by
 have hr:=cZ E hx
 unfold dy at hv
 split at hv
 ·rename_i b hb
  simp at hv;subst hv
  rw[hb]at hr
  exact⟨_,by simp only[execOp,ho,eP hr];rfl,.eH _ _ (.bool _)⟩
 ·simp at hv
theorem Q4 {x:Operand} {x':O} {t:TypeId} (E:cF P w D ι env a) (ho:o.op=.unOp .neg t x) (hx:cO P x=some x') (hv:dw (cJ env x')=some v):nz P a o w D ι v:=by
 have hr:=cZ E hx
 unfold dw at hv
 split at hv
 ·rename_i k n hb
  simp at hv;subst hv
  rw[hb]at hr
  refine⟨_,by simp only[execOp,ho,dh hr];rfl,?_⟩
  rw[Int.zero_sub];exact .eH _ _ (.int _ _)
 ·simp at hv
theorem Of {x:Operand} {x':O} {s d:TypeId} {k q:IntKind} (E:cF P w D ι env a) (ho:o.op=.convert s d x) (hs:P.underlying s=some (.int q)) (hd:P.underlying d=some (.int k)) (hx:cO P x=some x') (hv:cj k (cJ env x')=some v):nz P a o w D ι v:=by
 have hr:=cZ E hx
 unfold cj at hv
 split at hv
 ·rename_i k' n hb
  simp at hv;subst hv
  rw[hb]at hr
  refine⟨.int k (k.wrap n),?_,.eH _ _ (.int _ _)⟩
  simp only[execOp,ho,dh hr,convert,Sem.run_bind,run_underlying hs,run_underlying hd,Result.andThen_ok,Conv.intToInt,Sem.run_pure]
 ·simp at hv
theorem Le {x:Operand} {x':O} {s:TypeId} {i:Nat} {fs:Array Field} {f:Field} {m:Nat} (E:cF P w D ι env a) (ho:o.op=.fieldAddr s x i) (hs:P.underlying s=some (.struct fs)) (hf:fs[i]? =some f) (hm:dW P f.type=some (m+1)) (hx:cO P x=some x')
  (hv:DE f.offset (cJ env x')=some v):nz P a o w D ι v:=by
 have hr:=cZ E hx
 have go:∀b oo,a.eval x=.pointer (some ⟨b,oo,none⟩)->(execOp a.eval o).run P w=.ok (.value (.pointer (some ⟨b,oo+f.offset,none⟩))) w:=fun b oo h=>by
  simp only[execOp,ho,h,Instr.fieldAt,Sem.run_bind,run_underlying hs,Result.andThen_ok,hf,Instr.sureAddr,Sem.run_pure,fieldPlace,run_sizeOf hm,Nat.add_eq_zero_iff,Nat.one_ne_zero,and_false,if_false,Addr.add]
  split
  ·rename_i h0;simp[h0]
  ·rfl
 unfold DE at hv
 split at hv
 ·rename_i ki i' oo hb
  simp at hv;subst hv
  rw[hb]at hr
  obtain⟨B,h,hB,hk⟩:=je hr
  refine⟨_,go _ _ h,?_⟩
  rw[Nat.add_assoc]
  exact .ptr _ _ _ _ hB hk
 ·rename_i cs hb
  simp at hv;subst hv
  rw[hb]at hr
  obtain⟨b,oo,vs,h,h1,h2,h3,h4⟩:=ku hr
  refine⟨_,go _ _ h,.eH _ _ (.cN _ _ _ (fun j=>vs (f.offset+j)) h1 (fun a ha=>h2 a (List.mem_of_mem_drop ha)) (fun j hj=>?_) (fun j a ha=>h4 _ _ (by simpa using ha)))⟩
  rw[Nat.add_assoc]
  exact h3 _ (by simp at hj;omega)
 ·simp at hv
theorem Lf {x:Operand} {x':O} {s:TypeId} {i n:Nat} {ag:Bool} {fs:Array Field} {f:Field} (E:cF P w D ι env a) (ho:o.op=.field s x i) (hs:P.underlying s=some (.struct fs)) (hf:fs[i]? =some f) (tq:mV P f.type=some ag) (hm:dW P f.type=some n) (hx:cO P x=some x')
  (hv:bp ag f.offset n (cJ env x')=some v):nz P a o w D ι v:=by
 have hr:=cZ E hx
 unfold bp at hv
 split at hv
 ·rename_i cs hb
  split at hv
  ·rename_i hl
   rw[hb]at hr
   obtain⟨vs,g,h,n1,fl,f1,r1⟩:=iA hr
   unfold part at hv
   cases ag with
   |true=>
    simp only[if_true]at hv
    split at hv
    ·simp at hv;subst hv
     refine⟨.agg (vs.extract f.offset (f.offset+n)),?_,.agg _ _ (fun j=>g (f.offset+j)) (by simp[n1];omega) (fun a ha=>fl a (List.mem_of_mem_drop (List.mem_of_mem_take ha))) (fun j hj=>?_) (fun j a ha=>?_)⟩
     ·simp only[execOp,ho,h,Instr.field,Sem.run_bind,run_underlying hs,Result.andThen_ok,hf,asAgg,Sem.run_pure,oG tq hm]
     ·simp at hj
      rw[Array.getElem?_extract,if_pos (by omega)];exact f1 _ (by omega)
     ·rw[List.getElem?_take]at ha
      split at ha
      ·exact r1 _ _ (by simpa using ha)
      ·simp at ha
    ·simp at hv
   |false=>
    simp only[Bool.false_eq_true,if_false]at hv
    have nf:cs[f.offset]? =some v:=by simpa[List.head?_drop]using hv
    have dV:=(List.getElem?_eq_some_iff.1 nf).1
    exact⟨g f.offset,by simp only[execOp,ho,h,Instr.field,Sem.run_bind,run_underlying hs,Result.andThen_ok,hf,asAgg,Sem.run_pure,lQ tq (f1 _ dV)],r1 _ _ nf⟩
  ·simp at hv
 ·simp at hv
theorem Q6 {left:Bool} {x y:Operand} {x' y':O} {t yt:TypeId} (E:cF P w D ι env a) (ho:o.op=.binOp (if left then .shl else .shr) t x y yt) (hx:cO P x=some x') (hy:cO P y=some y') (hv:fR left (cJ env x') (cJ env y')=some v):nz P a o w D ι v:=by
 unfold fR at hv
 split at hv
 ·rename_i k n k' m hb rG
  split at hv
  ·simp at hv
  ·rename_i hm
   simp at hv;subst hv
   have h1:=dh (hb▸cZ E hx)
   have h2:=dh (rG▸cZ E hy)
   refine⟨_,?_,.eH _ _ (.int _ _)⟩
   simp only[execOp,ho,h1,h2]
   cases left<;>simp only[Bool.false_eq_true,if_false,if_true,eqGuard,Bool.not_true,Bool.not_false,binOp,Op.shift,hm,Sem.run_bind,Sem.run_pure,Result.andThen_ok]<;>rfl
 ·simp at hv
end
end Go.Proofs.YtgoljkjaameagaaGreat.V

namespace Go.Proofs.YtgoljkjaameagaaGreat.V
open Go.RowKit
variable {P:Program} {w w':World} {D D':Nat->Prop} {ι ι':Names}
theorem jT (b o j:Nat):(⟨b,o,none⟩:Addr).add j=⟨b,o+j,none⟩:=by unfold Addr.add;split<;>simp_all
section
variable {g:Rows} {hs:Nat} {env:Env} {a:Act} {o:Oper} {id:Id} {v:AV}
theorem j7 {t:TypeId} {ag:Bool} {n b oo:Nat} {cs:List AV} {v:AV} {f:Nat->Value} (tq:mV P t=some ag) (hn:dW P t=some n) (hp:part ag n cs=some v) (fl:∀a∈cs,a.cell=true)
  (hc:∀j,j<cs.length->w.cell? ⟨b,oo+j,none⟩=some (f j)) (hr:∀j a,cs[j]? =some a->cV P w D ι a (f j)):∃u,(loadVar t ⟨b,oo,none⟩).run P w=.ok u w/\cV P w D ι v u:=by
 unfold part at hp
 cases ag with
 |true=>
  simp only[if_true]at hp
  split at hp
  ·rename_i hl
   simp at hp;subst hp
   refine⟨.agg ((List.range n).map f).toArray,?_,.agg _ _ f (by simp;omega) (fun a ha=>fl a (List.mem_of_mem_take ha)) (fun j hj=>?_) (fun j a ha=>?_)⟩
   ·simp only[loadVar,Sem.run_bind,rX tq,Result.andThen_ok,if_true,run_sizeOf hn,Sem.run_pure]
    rw[run_loadCells w _ n f (fun j hj=>by rw[jT];exact hc j (by omega))]
    rfl
   ·simp at hj
    have:j<n:=by omega
    simp[this]
   ·rw[List.getElem?_take]at ha
    split at ha
    ·exact hr _ _ ha
    ·simp at ha
  ·simp at hp
 |false=>
  simp only[Bool.false_eq_true,if_false]at hp
  cases cs with
  |nil=>simp at hp
  |cons c r=>
   simp at hp;subst hp
   refine⟨f 0,?_,hr 0 _ rfl⟩
   simp only[loadVar,Sem.run_bind,rX tq,Result.andThen_ok,Bool.false_eq_true,if_false]
   have:=hc 0 (by simp)
   simp at this
   rw[run_load,this]
theorem IB {S:gp P hs D ι g w} {i:Nat} {cs:List AV} (h:rowAt g id i=some cs) (hk:∀B,ι id=some B->B.k=none):∃B r,g id=some r/\ι id=some B/\kT P w D ι B r/\r.rows[i]? =some cs/\(∀a∈cs,a.cell=true)/\∃f:Nat->Value,∀j,j<cs.length->w.cell? ⟨B.b,i*B.sz+j,none⟩=some (f j)/\∀a,cs[j]? =some a->cV P w D ι a (f j):=by
 unfold rowAt at h
 simp only[Option.bind_eq_some_iff]at h
 obtain⟨r,hr,hi⟩:=h
 obtain⟨B,hB,R,_,_⟩:=S.row id r hr
 replace R:=R.row (hk B hB)
 refine⟨B,r,hr,hB,R,hi,R.flat cs (List.mem_of_getElem? hi),fun j=>(w.cell? ⟨B.b,i*B.sz+j,none⟩).getD undef,fun j hj=>?_⟩
 obtain⟨u,hu,v8⟩:=R.at_ i j cs _ hi (List.getElem?_eq_getElem hj)
 rw[R.sz,hu]
 refine⟨by simp only[hu,Option.getD_some],fun a ha=>?_⟩
 rw[List.getElem?_eq_getElem hj]at ha
 injection ha with ha
 subst ha
 simpa only[hu,Option.getD_some]using v8
theorem Oo {x:Operand} {x':O} {t:TypeId} {ag:Bool} {n:Nat} (S:gp P hs D ι g w) (E:cF P w D ι env a) (ho:o.op=.load t x) (tq:mV P t=some ag) (hn:dW P t=some n) (hx:cO P x=some x') (hv:ld g ag n (cJ env x')=some v):nz P a o w D ι v:=by
 have hr:=cZ E hx
 have go:∀b oo u,a.eval x=.pointer (some ⟨b,oo,none⟩)->(loadVar t ⟨b,oo,none⟩).run P w=.ok u w->(execOp a.eval o).run P w=.ok (.value u) w:=fun b oo u h h2=>by
  simp only[execOp,ho,h,Instr.loadAt,Instr.sureAddr,Sem.run_bind,Sem.run_pure,Result.andThen_ok,h2]
 unfold ld at hv
 split at hv
 ·rename_i ki i' oo hb
  rw[hb]at hr
  obtain⟨B,h,hB,hk⟩:=je hr
  simp only[Option.bind_eq_some_iff]at hv
  obtain⟨cs,di,hp⟩:=hv
  obtain⟨B',r,Ea,dJ,R,hi,fl,f,hf⟩:=IB (S:=S) di (fun B2 h2=>by rw[hB]at h2;injection h2 with h2;subst h2;exact hk)
  rw[hB]at dJ;injection dJ with dJ;subst dJ
  obtain⟨u,h1,h2⟩:=j7 (w:=w) (b:=B.b) (oo:=i'*B.sz+oo) (f:=fun j=>f (oo+j)) tq hn hp (fun a ha=>fl a (List.mem_of_mem_drop ha)) (fun j hj=>by
   rw[Nat.add_assoc];exact(hf _ (by simp at hj;omega)).1) (fun j a ha=>by
   simp at ha;exact(hf _ ((List.getElem?_eq_some_iff.1 ha).1)).2 _ ha)
  exact⟨u,go _ _ _ h h1,h2⟩
 ·rename_i cs hb
  rw[hb]at hr
  obtain⟨b,oo,vs,h,h1,h2,h3,h4⟩:=ku hr
  obtain⟨u,k1,k2⟩:=j7 (w:=w) (b:=b) (oo:=oo) (f:=vs) tq hn hv h2 h3 (fun j a ha=>.eH _ _ (h4 j a ha))
  exact⟨u,go _ _ _ h k1,k2⟩
 ·simp at hv
theorem QZ {x:Operand} {x':O} (E:cF P w D ι env a) (ho:o.op=.nilCheck x) (hx:cO P x=some x') (hv:dt (cJ env x')=some v):nz P a o w D ι v:=by
 have hr:=cZ E hx
 unfold dt at hv
 split at hv
 ·rename_i ki i' oo hb
  simp at hv;subst hv
  rw[hb]at hr
  obtain⟨B,h,hB,hk⟩:=je hr
  exact⟨_,by simp only[execOp,ho,h];rfl,.ptr _ _ _ _ hB hk⟩
 ·rename_i cs hb
  simp at hv;subst hv
  rw[hb]at hr
  obtain⟨b,oo,vs,h,_⟩:=ku hr
  exact⟨_,by simp only[execOp,ho,h];rfl,h▸hr⟩
 ·simp at hv
theorem Lg {x i:Operand} {x' i':O} {t e:TypeId} {m:Nat} (S:gp P hs D ι g w) (E:cF P w D ι env a) (ho:o.op=.indexAddr t x i) (ht:P.underlying t=some (.slice e)) (hm:dW P e=some (m+1)) (hx:cO P x=some x') (hi:cO P i=some i')
  (hv:bq g (m+1) (cJ env x') (cJ env i')=some v):nz P a o w D ι v:=by
 have hr:=cZ E hx
 have CG:=cZ E hi
 have go:∀b oo n c k (q:Int),a.eval x=.slice (some ⟨b,oo,none⟩) n c->a.eval i=.int k q->0<=q->q<n->(execOp a.eval o).run P w=.ok (.value (.pointer (some ⟨b,oo+q.toNat*(m+1),none⟩))) w:=fun b oo n c k q h h2 h3 h4=>by
  simp only[execOp,ho,h,h2,Instr.indexAt,asIntOf,Sem.run_bind,Sem.run_pure,run_underlying ht,Result.andThen_ok,h3,h4,and_self,if_true,run_sizeOf hm,jT]
 unfold bq at hv
 split at hv
 ·rename_i rows k q hb rG
  split at hv
  ·rename_i hq
   simp only[Option.bind_eq_some_iff]at hv
   obtain⟨cs,di,hv⟩:=hv
   split at hv
   ·rename_i hlen
    simp at hv;subst hv
    rw[hb]at hr;rw[rG]at CG
    have dV:=(List.getElem?_eq_some_iff.1 di).1
    obtain⟨A,c,h,h1,h2,h3⟩:=uU hr
    rcases h3 with h3|⟨b,oo,sz,vs,rfl,hD,hl,fl,hc,hi⟩
    ·subst h3;simp at di
    have fb:sz=m+1:=by rw[<-hlen,hl cs (List.mem_of_getElem? di)]
    refine⟨_,go b oo _ _ k q h (dh CG) hq (by omega),.eH _ _ (.cN cs b _ (vs q.toNat) hD (fl cs (List.mem_of_getElem? di)) (fun j hj=>?_) (fun j a ha=>hi _ _ _ _ di ha))⟩
    have:=hc q.toNat j dV (by rw[<-hl cs (List.mem_of_getElem? di)];exact hj)
    rw[fb]at this
    rw[Nat.add_assoc];exact this
   ·simp at hv
  ·simp at hv
 ·rename_i ki off len k q hb rG
  split at hv
  ·rename_i hq
   simp only[Option.bind_eq_some_iff]at hv
   obtain⟨r,Ea,hv⟩:=hv
   split at hv
   ·rename_i xd
    simp at hv;subst hv
    rw[hb]at hr;rw[rG]at CG
    obtain⟨oo,cap,B,h,hB,h1,h2,h3,h4,hk⟩:=iC hr
    obtain⟨B',dJ,R,_,_⟩:=S.row _ _ Ea
    rw[hB]at dJ;injection dJ with dJ;subst dJ
    replace R:=R.row hk
    have fb:B.sz=m+1:=R.sz.trans xd
    refine⟨_,go _ _ _ _ k q h (dh CG) hq.1 hq.2,?_⟩
    have Bz:oo=off*B.sz:=by rcases h2 with h2|h2<;>omega
    have:oo+q.toNat*(m+1)=(off+q.toNat)*B.sz+0:=by rw[Bz,<-fb,Nat.add_mul];rfl
    rw[this]
    exact .ptr _ _ _ _ hB hk
   ·simp at hv
  ·simp at hv
 ·simp at hv
theorem Oi {x i:Operand} {x' i':O} {t e:TypeId} {m len:Nat} (E:cF P w D ι env a) (ho:o.op=.indexAddr t x i) (ht:P.underlying t=some (.array len e)) (hm:dW P e=some (m+1)) (hx:cO P x=some x') (hi:cO P i=some i')
  (hv:ck len (m+1) (cJ env x') (cJ env i')=some v):nz P a o w D ι v:=by
 have hr:=cZ E hx
 have CG:=cZ E hi
 have go:∀b oo k (q:Int),a.eval x=.pointer (some ⟨b,oo,none⟩)->a.eval i=.int k q->0<=q->q<len->(execOp a.eval o).run P w=.ok (.value (.pointer (some ⟨b,oo+q.toNat*(m+1),none⟩))) w:=fun b oo k q h h2 h3 h4=>by
  simp only[execOp,ho,h,h2,Instr.indexAt,asIntOf,Sem.run_bind,Sem.run_pure,run_underlying ht,Instr.sureAddr,Result.andThen_ok,h3,h4,and_self,if_true,run_sizeOf hm,jT]
 unfold ck at hv
 split at hv
 ·rename_i ki r oo k q hb rG
  split at hv
  ·rename_i hq
   simp at hv;subst hv
   rw[hb]at hr;rw[rG]at CG
   obtain⟨B,h,hB,hk⟩:=je hr
   refine⟨_,go _ _ k q h (dh CG) hq.1 hq.2,?_⟩
   rw[Nat.add_assoc]
   exact .ptr _ _ _ _ hB hk
  ·simp at hv
 ·rename_i cs k q hb rG
  split at hv
  ·rename_i hq
   simp at hv;subst hv
   rw[hb]at hr;rw[rG]at CG
   obtain⟨b,oo,vs,h,h1,h2,h3,h4⟩:=ku hr
   refine⟨_,go _ _ k q h (dh CG) hq.1 hq.2,.eH _ _ (.cN _ _ _ (fun j=>vs (q.toNat*(m+1)+j)) h1 (fun a ha=>h2 a (List.mem_of_mem_drop ha)) (fun j hj=>?_) (fun j a ha=>h4 _ _ (by simpa using ha)))⟩
   rw[Nat.add_assoc]
   exact h3 _ (by simp at hj;omega)
  ·simp at hv
 ·simp at hv
theorem Ol {x i:Operand} {x' i':O} {t:TypeId} (E:cF P w D ι env a) (ho:o.op=.index t x i) (ht:P.underlying t=some .string) (hx:cO P x=some x') (hi:cO P i=some i')
  (hv:cq (cJ env x') (cJ env i')=some v):nz P a o w D ι v:=by
 have hr:=cZ E hx
 have CG:=cZ E hi
 unfold cq at hv
 split at hv
 ·rename_i s k q hb rG
  split at hv
  ·rename_i hq
   simp only[Option.map_eq_some_iff]at hv
   obtain⟨c,hc,rfl⟩:=hv
   rw[hb]at hr;rw[rG]at CG
   refine⟨_,?_,.eH _ _ (.int _ _)⟩
   simp only[execOp,ho,fq hr,dh CG,Instr.index,asIntOf,Sem.run_bind,Sem.run_pure,run_underlying ht,Result.andThen_ok,hq,if_true,hc]
  ·simp at hv
 ·simp at hv
theorem Oj {x i:Operand} {x' i':O} {t e:TypeId} {ag:Bool} {len n:Nat} (E:cF P w D ι env a) (ho:o.op=.index t x i) (ht:P.underlying t=some (.array len e)) (tq:mV P e=some ag) (hn:dW P e=some n) (hx:cO P x=some x') (hi:cO P i=some i')
  (hv:cm ag len n (cJ env x') (cJ env i')=some v):nz P a o w D ι v:=by
 have hr:=cZ E hx
 have CG:=cZ E hi
 unfold cm at hv
 split at hv
 ·rename_i cs k q hb rG
  split at hv
  ·rename_i hq
   rw[hb]at hr;rw[rG]at CG
   obtain⟨vs,f,h,n1,fl,f1,r1⟩:=iA hr
   have go:∀u,(Go.part e vs (q.toNat*n)).run P w=.ok u w->(execOp a.eval o).run P w=.ok (.value u) w:=fun u hu=>by
    simp only[execOp,ho,h,dh CG,Instr.index,asIntOf,Sem.run_bind,Sem.run_pure,run_underlying ht,Result.andThen_ok,hq,and_self,if_true,run_sizeOf hn,hu]
   unfold part at hv
   cases ag with
   |true=>
    simp only[if_true]at hv
    split at hv
    ·rename_i hl
     simp at hv;subst hv
     simp only[List.length_drop]at hl
     by_cases GB:n=0
     ·subst GB
      refine⟨_,go _ (oG tq hn),.agg _ _ (fun _=>undef) (by simp) (fun a ha=>by simp at ha) (fun j hj=>by simp at hj) (fun j a ha=>by simp at ha)⟩
     refine⟨_,go _ (oG tq hn),.agg _ _ (fun j=>f (q.toNat*n+j)) (by simp[n1];omega) (fun a ha=>fl a (List.mem_of_mem_drop (List.mem_of_mem_take ha))) (fun j hj=>?_) (fun j a ha=>?_)⟩
     ·simp at hj
      rw[Array.getElem?_extract,if_pos (by omega)];exact f1 _ (by omega)
     ·rw[List.getElem?_take]at ha
      split at ha
      ·exact r1 _ _ (by simpa using ha)
      ·simp at ha
    ·simp at hv
   |false=>
    simp only[Bool.false_eq_true,if_false]at hv
    have nf:cs[q.toNat*n]? =some v:=by simpa[List.head?_drop]using hv
    have dV:=(List.getElem?_eq_some_iff.1 nf).1
    exact⟨_,go _ (lQ tq (f1 _ dV)),r1 _ _ nf⟩
  ·simp at hv
 ·simp at hv
theorem Gv {x:Operand} {x':O} {i:Nat} (E:cF P w D ι env a) (ho:o.op=.extract x i) (hx:cO P x=some x') (hv:aA i (cJ env x')=some v):nz P a o w D ι v:=by
 have hr:=cZ E hx
 unfold aA at hv
 split at hv
 ·rename_i vs hb
  rw[hb]at hr
  obtain⟨us,f,h,h1,h2,h3⟩:=tE hr
  have dV:=(List.getElem?_eq_some_iff.1 hv).1
  exact⟨_,by simp only[execOp,ho,h,Instr.extract,h2 _ dV];rfl,h3 _ _ hv⟩
 ·simp at hv
theorem Q3 {x:Operand} {x':O} {t:TypeId} {e:TypeId} {n:Nat} (E:cF P w D ι env a) (ho:o.op=.call {callee:=.builtin .len,args:= #[x],argTypes:= #[t]}) (ht:P.underlying t=some (.slice e)) (hx:cO P x=some x') (hv:dv (cJ env x')=some n):nz P a o w D ι (.int .i64 n):=by
 have hr:=cZ E hx
 have go:∀A c,a.eval x=.slice A n c->(execOp a.eval o).run P w=.ok (.value (.int .i64 n)) w:=fun A c h=>by
  simp only[execOp,ho,resolve,Sem.run_bind,Sem.run_pure,Result.andThen_ok,invoke,builtin,Array.map,h]
  simp[Builtin.len_,run_underlying ht,goInt,h]
 refine⟨.int .i64 n,?_,.eH _ _ (.int _ _)⟩
 unfold dv at hv
 split at hv<;>simp at hv<;>subst hv<;>rename_i hb<;>rw[hb]at hr
 ·exact go _ _ (jd hr)
 ·obtain⟨A,c,h,_⟩:=uU hr;exact go _ _ h
 ·obtain⟨oo,cap,B,h,_⟩:=iC hr;exact go _ _ h
theorem On {x:Operand} {x':O} {t:TypeId} (E:cF P w D ι env a) (ho:o.op=.call {callee:=.builtin .len,args:= #[x],argTypes:= #[t]}) (ht:P.underlying t=some .string) (hx:cO P x=some x') (hv:cu (cJ env x')=some v):nz P a o w D ι v:=by
 have hr:=cZ E hx
 unfold cu at hv
 split at hv
 ·rename_i s hb
  simp at hv;subst hv
  rw[hb]at hr
  have h:=fq hr
  refine⟨_,?_,.eH _ _ (.int _ _)⟩
  simp only[execOp,ho,resolve,Sem.run_bind,Sem.run_pure,Result.andThen_ok,invoke,builtin,Array.map,h]
  simp[Builtin.len_,run_underlying ht,goInt,h]
 ·simp at hv
theorem mm {isS:Bool} {len cap h l:Nat} {lo hi:Option Operand} {LU pT:Option O} (E:cF P w D ι env a) (iv:qc P lo=some LU) (BB:qc P hi=some pT) (hh:db len (pT.map (cJ env))=some h) (hl:dc h (LU.map (cJ env))=some l) (hc:len<=cap):
  (Instr.sliceBounds isS len cap (lo.map a.eval) (hi.map a.eval) none).run P w=.ok (l,h,cap) w/\l<=h/\h<=len:=by
 have bound:∀(x:Operand) (y:O) (k:IntKind) (n:Int) (m:Nat) (c:BoundsCode),cO P x=some y->cJ env y=.int k n->0<=n->n<=m->(Instr.sliceBound (a.eval x) m c).run P w=.ok n.toNat w:=fun x y k n m c hx hy h0 h1=>by
  have hr:=cZ E hx
  rw[hy]at hr
  simp only[Instr.sliceBound,dh hr,asIntOf,Sem.run_bind,Sem.run_pure,Result.andThen_ok,h0,h1,and_self,if_true]
 have H:h<=len/\((hi=none/\h=len)∨∃x,hi=some x/\∀c,(Instr.sliceBound (a.eval x) cap c).run P w=.ok h w):=by
  cases hi with
  |none=>
   simp[qc]at BB;subst BB
   simp[db]at hh;subst hh
   exact⟨Nat.le_refl _,.inl ⟨rfl,rfl⟩⟩
  |some x=>
   simp only[qc,Option.map_eq_some_iff]at BB
   obtain⟨y,hy,rfl⟩:=BB
   simp only[Option.map_some,db]at hh
   split at hh
   ·rename_i e;cases e
   ·rename_i k n e
    injection e with e
    split at hh
    ·rename_i hn
     simp at hh;subst hh
     exact⟨by omega,.inr ⟨x,rfl,fun c=>bound x y k n _ _ hy e hn.1 (by omega)⟩⟩
    ·simp at hh
   ·simp at hh
 have L:l<=h/\((lo=none/\l=0)∨∃x,lo=some x/\∀c,(Instr.sliceBound (a.eval x) h c).run P w=.ok l w):=by
  cases lo with
  |none=>
   simp[qc]at iv;subst iv
   simp[dc]at hl;subst hl
   exact⟨Nat.zero_le _,.inl ⟨rfl,rfl⟩⟩
  |some x=>
   simp only[qc,Option.map_eq_some_iff]at iv
   obtain⟨y,hy,rfl⟩:=iv
   simp only[Option.map_some,dc]at hl
   split at hl
   ·rename_i e;cases e
   ·rename_i k n e
    injection e with e
    split at hl
    ·rename_i hn
     simp at hl;subst hl
     exact⟨by omega,.inr ⟨x,rfl,fun c=>bound x y k n h _ hy e hn.1 hn.2⟩⟩
    ·simp at hl
   ·simp at hl
 refine⟨?_,L.1,H.1⟩
 unfold Instr.sliceBounds
 rcases H.2 with⟨rfl,rfl⟩|⟨x,rfl,hx⟩<;>rcases L.2 with⟨rfl,rfl⟩|⟨y,rfl,hy⟩<;>
  simp only[Option.map_none,Option.map_some,Sem.run_bind,Sem.run_pure,Result.andThen_ok, *]
theorem Lh {x:Operand} {x':O} {lo hi:Option Operand} {LU pT:Option O} {t e:TypeId} {m:Nat} (S:gp P hs D ι g w) (E:cF P w D ι env a) (ho:o.op=.slice t x lo hi none) (ht:P.underlying t=some (.slice e)) (hm:dW P e=some m) (hx:cO P x=some x') (iv:qc P lo=some LU) (BB:qc P hi=some pT)
  (hv:br g m (cJ env x') (LU.map (cJ env)) (pT.map (cJ env))=some v):nz P a o w D ι v:=by
 have hr:=cZ E hx
 have go:∀A len cap l h,a.eval x=.slice A len cap->(Instr.sliceBounds true len cap (lo.map a.eval) (hi.map a.eval) none).run P w=.ok (l,h,cap) w->(execOp a.eval o).run P w=.ok (.value (.slice (if cap=l then A else A.map (·.add (l*m))) (h-l) (cap-l))) w:=fun A len cap l h h1 h2=>by
  simp only[execOp,ho,h1,Instr.sliceAt,Instr.slice,Sem.run_bind,Sem.run_pure,run_underlying ht,Result.andThen_ok,Option.map_none,h2,run_sizeOf hm]
 unfold br at hv
 split at hv
 ·rename_i hb
  rw[hb]at hr
  simp only[Option.bind_eq_some_iff,Option.map_eq_some_iff]at hv
  obtain⟨h,hh,l,hl,rfl⟩:=hv
  obtain⟨q,q1,q2⟩:=mm (w:=w) (isS:=true) (cap:=0) E iv BB hh hl (Nat.le_refl _)
  have h0:h=0:=by omega
  have l0:l=0:=by omega
  subst h0;subst l0
  refine⟨_,go _ _ _ _ _ (jd hr) q,?_⟩
  simp;exact .eH _ _ .bP
 ·rename_i rows hb
  rw[hb]at hr
  simp only[Option.bind_eq_some_iff,Option.map_eq_some_iff]at hv
  obtain⟨h,hh,l,hl,hv⟩:=hv
  split at hv
  ·rename_i dH
   simp at hv;subst hv
   obtain⟨A,c,he,c1,c2,h3⟩:=uU hr
   obtain⟨q,q1,q2⟩:=mm (w:=w) (isS:=true) (cap:=c) E iv BB hh hl c1
   refine⟨_,go _ _ _ _ _ he q,.eH _ _ ?_⟩
   have hlen:((rows.drop l).take (h-l)).length=h-l:=by simp;omega
   by_cases hz:h-l=0
   ·have:(rows.drop l).take (h-l)=[]:=by rw[hz];simp
    rw[this,hz]
    exact .BI _ _ (by omega)
   ·rcases h3 with h3|⟨b,oo,sz,vs,rfl,hD,Jl,fl,hc,hi⟩
    ·subst h3;simp at q2;omega
    rw[if_neg (by omega)]
    simp only[Option.map_some,jT]
    have Ao:sz=m:=by
     have dV:l<rows.length:=by omega
     have:=dH rows[l] (List.getElem_mem dV)
     rw[<-this,Jl _ (List.getElem_mem dV)]
    subst Ao
    refine .sl _ b _ _ _ sz (fun i j=>vs (l+i) j) hlen (by omega) (by omega) hD (fun cs di=>Jl cs (List.mem_of_mem_drop (List.mem_of_mem_take di))) (fun cs di=>fl cs (List.mem_of_mem_drop (List.mem_of_mem_take di))) (fun i j hi hj=>?_) (fun i j cs a di ha=>?_)
    ·rw[<-hc (l+i) j (by omega) hj,Nat.add_mul]
     congr 2;omega
    ·rw[List.getElem?_take]at di
     split at di
     ·exact hi _ _ _ _ (by simpa using di) ha
     ·simp at di
  ·simp at hv
 ·rename_i ki off len hb
  rw[hb]at hr
  simp only[Option.bind_eq_some_iff,Option.map_eq_some_iff]at hv
  obtain⟨r,Ea,h,hh,l,hl,hv⟩:=hv
  split at hv
  ·rename_i xd
   simp at hv;subst hv
   obtain⟨oo,cap,B,he,hB,h1,h2,h3,h4,hk⟩:=iC hr
   obtain⟨B',dJ,R,_,_⟩:=S.row _ _ Ea
   rw[hB]at dJ;injection dJ with dJ;subst dJ
   replace R:=R.row hk
   have fb:B.sz=m:=R.sz.trans xd
   obtain⟨q,q1,q2⟩:=mm (w:=w) (isS:=true) (cap:=cap) E iv BB hh hl h1
   refine⟨_,go _ _ _ _ _ he q,?_⟩
   have e1:(off+l+(cap-l))*B.sz<=B.C:=by rw[show off+l+(cap-l)=off+cap by omega];exact h3
   by_cases lI:cap=l
   ·rw[if_pos lI]
    exact .own _ _ _ _ _ B hB hk (by omega) (.inl (by omega)) e1 (by omega)
   ·rw[if_neg lI]
    simp only[Option.map_some,jT]
    have Bz:oo=off*B.sz:=by rcases h2 with h2|h2<;>omega
    exact .own _ _ _ _ _ B hB hk (by omega) (.inr (by rw[Bz,fb,Nat.add_mul])) e1 (by omega)
  ·simp at hv
 ·simp at hv
theorem Ja {x:Operand} {x':O} {lo hi:Option Operand} {LU pT:Option O} {t:TypeId} (E:cF P w D ι env a) (ho:o.op=.slice t x lo hi none) (ht:P.underlying t=some .string) (hx:cO P x=some x') (iv:qc P lo=some LU) (BB:qc P hi=some pT)
  (hv:aJ (cJ env x') (LU.map (cJ env)) (pT.map (cJ env))=some v):nz P a o w D ι v:=by
 have hr:=cZ E hx
 unfold aJ at hv
 split at hv
 ·rename_i s hb
  rw[hb]at hr
  simp only[Option.bind_eq_some_iff,Option.map_eq_some_iff]at hv
  obtain⟨h,hh,l,hl,rfl⟩:=hv
  obtain⟨q,_,_⟩:=mm (w:=w) (isS:=false) E iv BB hh hl (Nat.le_refl _)
  refine⟨_,?_,.eH _ _ (.str _)⟩
  simp only[execOp,ho,fq hr,Instr.sliceAt,Instr.slice,Sem.run_bind,Sem.run_pure,run_underlying ht,Result.andThen_ok,Option.map_none,Option.isSome_none,Bool.false_eq_true,if_false,q]
 ·simp at hv
theorem C7 {xs:List Operand} {ys:List O} (E:cF P w D ι env a) (h:xs.mapM (cO P)=some ys):(xs.map a.eval).length=ys.length/\∀j y,ys[j]? =some y->cV P w D ι (cJ env y) ((xs.map a.eval).getD j undef):=by
 induction xs generalizing ys with
 |nil=>simp at h;subst h;simp
 |cons x r ih=>
  simp only[List.mapM_cons,Option.bind_eq_bind,Option.bind_eq_some_iff]at h
  obtain⟨c,hc,o5,di,h⟩:=h
  simp at h;subst h
  obtain⟨h1,h2⟩:=ih di
  refine⟨by simpa using h1,fun j d hd=>?_⟩
  cases j with
  |zero=>simp at hd ⊢;subst hd;exact cZ E hc
  |succ j=>simp at hd ⊢;simpa using h2 j d hd
theorem Ot {f:Nat} {first cU:Array Operand} {zN:List O} (E:cF P w D ι env a) (ho:o.op=.makeFunc (.func f) first cU) (hf:first= #[]) (hc:fD P f=true) (hx:cU.toList.mapM (cO P)=some zN):nz P a o w D ι (.fn f (zN.map (cJ env))):=by
 subst hf
 obtain⟨h1,h2⟩:=C7 E hx
 refine⟨.func (.func f) #[] (cU.map a.eval),by simp only[execOp,ho,Instr.makeFunc,Sem.run_bind,Sem.run_pure,Result.andThen_ok];simp,.fn _ _ _ (fun j=>(cU.toList.map a.eval).getD j undef) hc (by simpa using h1) (fun j hj=>?_) (fun j x OZ=>?_)⟩
 ·simp at hj h1
  have:j<cU.size:=by omega
  simp[this]
 ·simp only[List.getElem?_map,Option.map_eq_some_iff]at OZ
  obtain⟨y,hy,rfl⟩:=OZ
  exact h2 j y hy
theorem Ou {f:Nat} {first cU:Array Operand} {zN:List O} (E:cF P w D ι env a) (ho:o.op=.makeFunc (.func f) first cU) (hf:cU= #[]) (hc:fD P f=true) (hx:first.toList.mapM (cO P)=some zN):nz P a o w D ι (.tC f (zN.map (cJ env))):=by
 subst hf
 obtain⟨h1,h2⟩:=C7 E hx
 refine⟨.func (.func f) (first.map a.eval) #[],by simp only[execOp,ho,Instr.makeFunc,Sem.run_bind,Sem.run_pure,Result.andThen_ok];simp,.tC _ _ _ (fun j=>(first.toList.map a.eval).getD j undef) hc (by simpa using h1) (fun j hj=>?_) (fun j x OZ=>?_)⟩
 ·simp at hj h1
  have:j<first.size:=by omega
  simp[this]
 ·simp only[List.getElem?_map,Option.map_eq_some_iff]at OZ
  obtain⟨y,hy,rfl⟩:=OZ
  exact h2 j y hy
end
end Go.Proofs.YtgoljkjaameagaaGreat.V

namespace Go.Proofs.YtgoljkjaameagaaGreat.V
open Go.RowKit
variable {P:Program} {w w':World} {D D':Nat->Prop} {ι ι':Names}
def Mk (P:Program) (a:Act) (o:Oper) (w:World) (D:Nat->Prop) (ι:Names) (id:Id) (v:AV) (r:Row):Prop:=
 ∃u cells T,(execOp a.eval o).run P w=.ok (.value u) (w.alloc (.cells cells T))/\r.w=true/\r.rows.length*r.sz<=cells.size/\(∀cs∈r.rows,cs.length=r.sz)/\(∀cs∈r.rows,∀a∈cs,a.cell=true)/\
  (∀i j cs a,r.rows[i]? =some cs->cs[j]? =some a->∃x,cells[i*r.sz+j]? =some x/\cV P w D ι a x)/\∀ι':Names,ι' id=some ⟨w.heap.size,r.sz,cells.size,none⟩->cV P w D ι' v u
section
variable {g:Rows} {hs:Nat} {env:Env} {a:Act} {o:Oper} {id:Id} {v:AV}
theorem kL {vs:List Value} {cs:List K} (h:vs.mapM FF=some cs):eZ P w D ι (cs.map K.av) vs.toArray:=by
 obtain⟨h1,h2⟩:=qx h
 refine⟨by simp[h1],fun j a ha=>?_⟩
 simp only[List.getElem?_map,Option.map_eq_some_iff]at ha
 obtain⟨c,hc,rfl⟩:=ha
 exact⟨c.val,by simpa using h2 j c hc,uS c⟩
theorem jE {t:TypeId} {z:List K} (h:jq P t=some z):∃i v,P.info? t=some i/\i.zero=some v/\v.cells.size=i.size/\v.cells.toList.mapM FF=some z/\z.length=i.size:=by
 unfold jq at h
 split at h
 ·rename_i i hi
  split at h
  ·rename_i v hv
   split at h
   ·rename_i hs
    exact⟨i,v,hi,hv,hs,h,by rw[(qx h).1];simpa using hs⟩
   ·simp at h
  ·simp at h
 ·simp at h
theorem Et {cs:List AV} {cells:Array Value} (h:eZ P w D ι cs cells):∀i j c a,[cs][i]? =some c->c[j]? =some a->∃x,cells[i*cs.length+j]? =some x/\cV P w D ι a x:=by
 intro i j c a hi hj
 cases i with
 |zero=>simp at hi;subst hi;simpa using h.2 j a hj
 |succ i=>simp at hi
theorem QG {t:TypeId} {z:List K} (ho:o.op=.alloc t) (hz:jq P t=some z):Mk P a o w D ι id (.ptr id 0 0) ⟨true,z.length,[z.map K.av]⟩:=by
 obtain⟨i,v,hi,hv,hs,hm,hl⟩:=jE hz
 have hk:=kL (P:=P) (w:=w) (D:=D) (ι:=ι) hm
 refine⟨.pointer (some ⟨w.heap.size,0,none⟩),v.cells,t,?_,rfl,?_,?_,?_,?_,?_⟩
 ·simp only[execOp,ho,Instr.alloc,zeroValue,typeInfo,Sem.run_bind]
  simp[hi,hv,newVar,newRow]
 ·simp[hl,hs]
 ·intro cs di;simp at di;subst di;simp
 ·intro cs di x hx;simp at di;subst di
  obtain⟨c,_,rfl⟩:=List.mem_map.1 hx;exact c.l6
 ·have:=Et hk;simpa using this
 ·intro ι' hι
  have:=cV.ptr (P:=P) (w:=w) (D:=D) (ι:=ι') id 0 0 _ hι rfl
  simpa using this
theorem pO {x:AV} {u:Value} (h:cV P w D ι x u) (hc:x.cells.all AV.cell=true):eZ P w D ι x.cells u.cells:=by
 obtain⟨h1,f,h2,h3⟩:=h.cells hc
 exact⟨h1,fun j a ha=>⟨f j,h2 j (List.getElem?_eq_some_iff.1 ha).1,h3 j a ha⟩⟩
theorem QE {t:TypeId} {x:Operand} {x':O} {cs:List AV} (E:cF P w D ι env a) (ho:o.op=.box t x) (hx:cO P x=some x') (hb:b4 (cJ env x')=some cs):Mk P a o w D ι id (.ptr id 0 0) ⟨true,cs.length,[cs]⟩:=by
 have hr:=cZ E hx
 unfold b4 at hb
 split at hb
 ·rename_i dH
  simp at hb;subst hb
  have hk:=pO hr dH
  refine⟨.pointer (some ⟨w.heap.size,0,none⟩),(a.eval x).cells,t,?_,rfl,?_,?_,?_,?_,?_⟩
  ·simp only[execOp,ho,Instr.box,Sem.run_bind]
   simp[newVar,newRow]
  ·simp[hk.1]
  ·intro cs di;simp at di;subst di;rfl
  ·intro cs di y hy;simp at di;subst di
   exact List.all_eq_true.1 dH y hy
  ·exact Et hk
  ·intro ι' hι
   have:=cV.ptr (P:=P) (w:=w) (D:=D) (ι:=ι') id 0 0 _ hι rfl
   simpa using this
 ·simp at hb
theorem foldl_set:∀(vs:List Value) (n off:Nat) (cells:Array Value),off+n+vs.length<=cells.size->((vs.zipIdx n).foldl (fun cs (x:Value×Nat)=>cs.setIfInBounds (off+x.2) x.1) cells).size=cells.size/\
  ∀k,((vs.zipIdx n).foldl (fun cs (x:Value×Nat)=>cs.setIfInBounds (off+x.2) x.1) cells)[k]? =if off+n<=k/\k<off+n+vs.length then vs[k-(off+n)]? else cells[k]?
 |[],n,off,cells,_=>⟨rfl,fun k=>by simp;intro h1 h2;omega⟩
 |v::r,n,off,cells,h=>by
  simp only[List.length_cons]at h
  obtain⟨h1,h2⟩:=foldl_set r (n+1) off (cells.setIfInBounds (off+n) v) (by simp;omega)
  simp only[List.zipIdx_cons,List.foldl_cons]
  refine⟨by rw[h1];simp,fun k=>?_⟩
  rw[h2 k]
  simp only[List.length_cons]
  by_cases hk:k=off+n
  ·subst hk
   rw[if_neg (by omega),if_pos (by omega)]
   simp[show off+n<cells.size by omega]
  ·by_cases sZ:off+n<=k/\k<off+n+(r.length+1)
   ·rw[if_pos (by omega),if_pos sZ]
    have:k-(off+n)=(k-(off+(n+1)))+1:=by omega
    rw[this,List.getElem?_cons_succ]
   ·rw[if_neg (by omega),if_neg sZ,Array.getElem?_setIfInBounds_ne (by omega)]
theorem uf (place:Nat->Option (Nat×Nat)):∀(ps:List (Nat×Value)) (qs:List (Nat×Nat×AV)) (cells:Array Value) (cs res:List AV),eZ P w D ι cs cells->(∀a∈cs,a.cell=true)->ps.length=qs.length->
  (∀(k:Nat) i u o' n x,ps[k]? =some (i,u)->qs[k]? =some (o',n,x)->place i=some (o',n)/\cV P w D ι x u)->bQ cs qs=some res->∃iU,Instr.fill place cells ps=some iU/\eZ P w D ι res iU/\(∀a∈res,a.cell=true)/\res.length=cs.length:=by
 intro ps
 induction ps with
 |nil=>
  intro qs cells cs res hR hf hl _ hv
  cases qs with
  |nil=>simp[bQ]at hv;subst hv;exact⟨cells,rfl,hR,hf,rfl⟩
  |cons q r=>simp at hl
 |cons p ps ih=>
  intro qs cells cs res hR hf hl hp hv
  cases qs with
  |nil=>simp at hl
  |cons q qs=>
   obtain⟨i,u⟩:=p
   obtain⟨oo,n,x⟩:=q
   obtain⟨mZ,hr⟩:=hp 0 i u oo n x rfl rfl
   unfold bQ at hv
   split at hv
   ·rename_i hc
    obtain⟨c1,c2,c3⟩:=hc
    have hk:=pO hr c3
    have Qr:u.cells.size=n:=by rw[hk.1,c1]
    have di:cells.size=cs.length:=hR.1
    unfold Instr.fill
    simp only[mZ]
    rw[if_neg (by rw[Qr,di];simp;omega)]
    obtain⟨s1,s2⟩:=foldl_set u.cells.toList 0 oo cells (by simp;omega)
    have e0:(u.cells.zipIdx.foldl (fun cs (x:Value×Nat)=>cs.setIfInBounds (oo+x.2) x.1) cells)=(u.cells.toList.zipIdx 0).foldl (fun cs (x:Value×Nat)=>cs.setIfInBounds (oo+x.2) x.1) cells:=by
     rw[<-Array.foldl_toList];simp
    have vY:=ih qs (u.cells.zipIdx.foldl (fun cs (x:Value×Nat)=>cs.setIfInBounds (oo+x.2) x.1) cells) (cs.take oo++x.cells++cs.drop (oo+n)) res ?_ ?_ (by simpa using hl) (fun k i u o' n x h1 h2=>hp (k+1) i u o' n x (by simpa using h1) (by simpa using h2)) hv
    ·obtain⟨iU,h1,h2,h3,h4⟩:=vY
     refine⟨iU,h1,h2,h3,?_⟩
     rw[h4];simp;omega
    ·rw[e0]
     refine⟨by rw[s1,di];simp;omega,fun j a ha=>?_⟩
     rw[s2 j]
     simp only[Nat.add_zero,Array.length_toList]
     by_cases hj:oo<=j/\j<oo+u.cells.size
     ·rw[if_pos hj]
      rw[List.append_assoc,List.getElem?_append_right (by simp;omega),List.getElem?_append_left (by simp;omega)]at ha
      simp only[List.length_take]at ha
      rw[show min oo cs.length=oo by omega]at ha
      simpa using hk.2 _ _ ha
     ·rw[if_neg hj]
      by_cases S7:j<oo
      ·rw[List.append_assoc,List.getElem?_append_left (by simp;omega),List.getElem?_take,if_pos S7]at ha
       exact hR.2 _ _ ha
      ·rw[List.getElem?_append_right (by simp;omega)]at ha
       simp only[List.length_append,List.length_take,List.getElem?_drop]at ha
       rw[show oo+n+(j-(min oo cs.length+x.cells.length))=j by omega]at ha
       exact hR.2 _ _ ha
    ·intro b hb
     rcases List.mem_append.1 hb with hb|hb
     ·rcases List.mem_append.1 hb with hb|hb
      ·exact hf b (List.mem_of_mem_take hb)
      ·exact List.all_eq_true.1 c3 b hb
     ·exact hf b (List.mem_of_mem_drop hb)
   ·simp at hv
theorem vV {fs:List Field} (h:∀f∈fs,(P.info? f.type).isSome=true):∃yU,fs.mapM (fun f=>(P.info? f.type).map fun i=>(f.offset,i.size))=some yU/\∀(i:Nat) (f:Field) (n:Nat),fs[i]? =some f->dW P f.type=some n->yU[i]? =some (f.offset,n):=by
 induction fs with
 |nil=>exact⟨[],rfl,fun i f n h=>by simp at h⟩
 |cons f r ih=>
  obtain⟨q,h1,h2⟩:=ih (fun x hx=>h x (List.mem_cons_of_mem _ hx))
  obtain⟨i,hi⟩:=Option.isSome_iff_exists.1 (h f (by simp))
  refine⟨(f.offset,i.size)::q,by simp[hi,h1],fun k x n hk hn=>?_⟩
  cases k with
  |zero=>simp at hk;subst hk;simp[dW,hi]at hn;subst hn;rfl
  |succ k=>simp at hk ⊢;exact h2 k x n hk hn
theorem ph {ps:List (Nat×Operand)} {l:List (Nat×O)} (E:cF P w D ι env a) (h:ps.mapM (fun(x:Nat×Operand)=>(cO P x.2).map (x.1,·))=some l):l.length=ps.length/\∀(k i:Nat) (y:O),l[k]? =some (i,y)->∃x,ps[k]? =some (i,x)/\cO P x=some y:=by
 induction ps generalizing l with
 |nil=>simp at h;subst h;simp
 |cons p r ih=>
  simp only[List.mapM_cons,Option.bind_eq_bind,Option.bind_eq_some_iff]at h
  obtain⟨c,hc,o5,di,h⟩:=h
  simp at h;subst h
  obtain⟨h1,h2⟩:=ih di
  simp only[Option.map_eq_some_iff]at hc
  obtain⟨y,hy,rfl⟩:=hc
  refine⟨by simp[h1],fun k i z hk=>?_⟩
  cases k with
  |zero=>simp at hk;obtain⟨rfl,rfl⟩:=hk;exact⟨p.2,rfl,hy⟩
  |succ k=>simp at hk ⊢;exact h2 k i z hk
theorem B5 {fs:Array Field} {l:List (Nat×O)} {q:List (Nat×Nat×O)} (h:re P fs l=some q):q.length=l.length/\∀(k oo n:Nat) (y:O),q[k]? =some (oo,n,y)->∃(i:Nat) (f:Field),l[k]? =some (i,y)/\fs[i]? =some f/\f.offset=oo/\dW P f.type=some n:=by
 induction l generalizing q with
 |nil=>simp[re]at h;subst h;simp
 |cons p r ih=>
  obtain⟨i,x⟩:=p
  unfold re at h
  split at h
  ·rename_i f hf
   split at h
   ·rename_i n hn
    simp only[Option.map_eq_some_iff]at h
    obtain⟨q',Kg,rfl⟩:=h
    obtain⟨h1,h2⟩:=ih Kg
    refine⟨by simp[h1],fun k oo m y hk=>?_⟩
    cases k with
    |zero=>simp at hk;obtain⟨rfl,rfl,rfl⟩:=hk;exact⟨i,f,rfl,hf,rfl,hn⟩
    |succ k=>simp only[List.getElem?_cons_succ]at hk ⊢;exact h2 k oo m y hk
   ·simp at h
  ·simp at h
theorem eZ.agg {xs:List AV} {vs:Array Value} (h:eZ P w D ι xs vs) (hf:∀a∈xs,a.cell=true):cV P w D ι (.agg xs) (.agg vs):=
 .agg xs vs (fun j=>vs.getD j undef) h.1 hf (fun j hj=>by
  have:j<vs.size:=by rw[h.1];exact hj
  simp[this]) (fun j a ha=>by
  obtain⟨u,h1,h2⟩:=h.2 j a ha
  simpa[Array.getD_eq_getD_getElem?,h1]using h2)
theorem Ld {t:TypeId} {ps:Array (Nat×Operand)} {fs:Array Field} {z:List K} {l:List (Nat×O)} {q:List (Nat×Nat×O)} {cs:List AV} (E:cF P w D ι env a) (ho:o.op=.build t ps) (ht:P.underlying t=some (.struct fs)) (hz:jq P t=some z) (hl:rj P ps=some l)
  (ql:∀f∈fs.toList,(P.info? f.type).isSome=true) (hq:re P fs l=some q) (hv:bQ (z.map K.av) (q.map fun(o,n,x)=>(o,n,cJ env x))=some cs):nz P a o w D ι (.agg cs):=by
 obtain⟨it,zv,hi,uB,hs,hm,Ej⟩:=jE hz
 obtain⟨yU,mZ,Ts⟩:=vV ql
 have hk:=kL (P:=P) (w:=w) (D:=D) (ι:=ι) hm
 obtain⟨n1,r1⟩:=ph E hl
 obtain⟨n2,r2⟩:=B5 hq
 obtain⟨iU,h1,h2,h3,_⟩:=uf (P:=P) (w:=w) (D:=D) (ι:=ι) (yU.toArray[·]?) (ps.toList.map fun(i,x)=>(i,a.eval x)) (q.map fun(o,n,x)=>(o,n,cJ env x)) zv.cells _ cs (by simpa using hk)
  (fun b hb=>by obtain⟨c,_,rfl⟩:=List.mem_map.1 hb;exact c.l6) (by simp[n2,n1]) (fun k i u o' n x tx sZ=>by
   simp only[List.getElem?_map,Option.map_eq_some_iff]at tx sZ
   obtain⟨⟨i',x'⟩,hp,e1⟩:=tx
   obtain⟨⟨o2,n',y⟩,Kg,e2⟩:=sZ
   simp only[Prod.mk.injEq]at e1 e2
   obtain⟨rfl,rfl⟩:=e1
   obtain⟨rfl,rfl,rfl⟩:=e2
   obtain⟨i2,f,HF,hf,rfl,hn⟩:=r2 _ _ _ _ Kg
   obtain⟨x2,zx,hc⟩:=r1 _ _ _ HF
   rw[hp]at zx
   simp only[Option.some.injEq,Prod.mk.injEq]at zx
   obtain⟨rfl,rfl⟩:=zx
   exact⟨by simpa using Ts _ _ _ (by simpa using hf) hn,cZ E hc⟩) hv
 refine⟨.agg iU,?_,h2.agg h3⟩
 have hb:P.built t ((ps.map fun(i,x)=>(i,a.eval x)).toList)=some iU:=by
  unfold Program.built
  simp only[hi,ht,uB,mZ]
  simpa using h1
 simp only[execOp,ho,Sem.run_bind,run_build w t _ _ hb,Result.andThen_ok,Sem.run_pure]
theorem I9 {t e:TypeId} {len n:Nat} {ps:Array (Nat×Operand)} {z:List K} {l:List (Nat×O)} {cs:List AV} (E:cF P w D ι env a) (ho:o.op=.build t ps) (ht:P.underlying t=some (.array len e)) (hz:jq P t=some z) (hl:rj P ps=some l) (hn:dW P e=some n)
  (hv:bQ (z.map K.av) ((l.map fun(x:Nat×O)=>(x.1*n,n,x.2)).map fun(o,n,x)=>(o,n,cJ env x))=some cs):nz P a o w D ι (.agg cs):=by
 obtain⟨it,zv,hi,uB,hs,hm,Ej⟩:=jE hz
 have hk:=kL (P:=P) (w:=w) (D:=D) (ι:=ι) hm
 obtain⟨n1,r1⟩:=ph E hl
 obtain⟨ie,GA,fb⟩:∃ie,P.info? e=some ie/\ie.size=n:=by simpa[dW]using hn
 obtain⟨iU,h1,h2,h3,_⟩:=uf (P:=P) (w:=w) (D:=D) (ι:=ι) (fun i=>some (i*ie.size,ie.size)) (ps.toList.map fun(i,x)=>(i,a.eval x)) ((l.map fun(x:Nat×O)=>(x.1*n,n,x.2)).map fun(o,n,x)=>(o,n,cJ env x)) zv.cells _ cs (by simpa using hk)
  (fun b hb=>by obtain⟨c,_,rfl⟩:=List.mem_map.1 hb;exact c.l6) (by simp[n1]) (fun k i u o' n' x tx sZ=>by
   simp only[List.getElem?_map,Option.map_eq_some_iff]at tx sZ
   obtain⟨⟨i',x'⟩,hp,e1⟩:=tx
   obtain⟨⟨o2,n2,y⟩,⟨⟨i2,y2⟩,HF,e3⟩,e2⟩:=sZ
   simp only[Prod.mk.injEq]at e1 e2 e3
   obtain⟨rfl,rfl⟩:=e1
   obtain⟨rfl,rfl,rfl⟩:=e2
   obtain⟨rfl,rfl,rfl⟩:=e3
   obtain⟨x2,zx,hc⟩:=r1 _ _ _ HF
   rw[hp]at zx
   simp only[Option.some.injEq,Prod.mk.injEq]at zx
   obtain⟨rfl,rfl⟩:=zx
   exact⟨by rw[fb],cZ E hc⟩) hv
 refine⟨.agg iU,?_,h2.agg h3⟩
 have hb:P.built t ((ps.map fun(i,x)=>(i,a.eval x)).toList)=some iU:=by
  unfold Program.built
  simp only[hi,ht,uB,GA]
  simpa using h1
 simp only[execOp,ho,Sem.run_bind,run_build w t _ _ hb,Result.andThen_ok,Sem.run_pure]
theorem ue:∀(vs:List AV) (sz i:Nat) (rs:List (List AV)) (cs:List AV),0<sz->cs.length=(i+vs.length)*sz->rowsOf sz vs=some rs->
  bQ cs ((vs.zipIdx i).map fun(v,j)=>(j*sz,sz,v))=some (cs.take (i*sz)++rs.flatten)/\rs.length=vs.length/\(∀c∈rs,c.length=sz)/\∀c∈rs,∀x∈c,x.cell=true
 |[],sz,i,rs,cs,_,hl,h=>by
  simp[rowsOf]at h;subst h
  simp at hl
  simp[bQ,List.take_of_length_le (show cs.length<=i*sz by omega)]
 |v::r,sz,i,rs,cs,fb,hl,h=>by
  simp only[rowsOf,Option.bind_eq_some_iff,Option.map_eq_some_iff]at h
  obtain⟨c,hc,rs',xd,rfl⟩:=h
  unfold rowOf at hc
  split at hc
  ·rename_i yn
   simp at hc;subst hc
   obtain⟨o6,Fi⟩:=yn
   simp only[List.length_cons]at hl
   have hmul:(i+(r.length+1))*sz=i*sz+sz+r.length*sz:=by rw[Nat.add_mul,Nat.add_mul];omega
   have ih:=ue r sz (i+1) rs' (cs.take (i*sz)++v.cells++cs.drop (i*sz+sz)) fb (by
    simp[o6];rw[Nat.add_mul,Nat.add_mul];omega) xd
   refine⟨?_,by simp[ih.2.1],?_,?_⟩
   ·simp only[List.zipIdx_cons,List.map_cons,bQ]
    rw[if_pos ⟨o6,by omega,Fi⟩,ih.1]
    congr 1
    rw[List.flatten_cons,<-List.append_assoc]
    congr 1
    rw[Nat.add_mul,Nat.one_mul,List.take_append_of_le_length (by simp[o6];omega)]
    rw[List.take_of_length_le (by simp[o6];omega)]
   ·intro c' kf;rcases List.mem_cons.1 kf with rfl|kf
    ·exact o6
    ·exact ih.2.2.1 c' kf
   ·intro c' kf;rcases List.mem_cons.1 kf with rfl|kf
    ·exact List.all_eq_true.1 Fi
    ·exact ih.2.2.2 c' kf
  ·simp at hc
theorem flat_get {α:Type} {nF:List (List α)} {sz:Nat} (h:∀cs∈nF,cs.length=sz) {i j:Nat} {cs:List α} {a:α} (hi:nF[i]? =some cs) (hj:cs[j]? =some a):nF.flatten[i*sz+j]? =some a:=by
 induction nF generalizing i with
 |nil=>simp at hi
 |cons c r ih=>
  have hc:c.length=sz:=h c (by simp)
  cases i with
  |zero=>
   simp at hi;subst hi
   have dV:=(List.getElem?_eq_some_iff.1 hj).1
   rw[List.flatten_cons,List.getElem?_append_left (by omega)];simpa using hj
  |succ i=>
   rw[List.flatten_cons,List.getElem?_append_right (by rw[hc,Nat.succ_mul];omega)]
   have:(i+1)*sz+j-c.length=i*sz+j:=by rw[hc,Nat.succ_mul];omega
   rw[this]
   exact ih (fun cs di=>h cs (List.mem_cons_of_mem _ di)) (by simpa using hi)
theorem Hn {α:Type} {nF:List (List α)} {sz:Nat} (h:∀cs∈nF,cs.length=sz):nF.flatten.length=nF.length*sz:=by
 induction nF with
 |nil=>simp
 |cons c r ih=>
  rw[List.flatten_cons,List.length_append,h c (by simp),ih (fun cs di=>h cs (List.mem_cons_of_mem _ di)),List.length_cons,Nat.succ_mul];omega
theorem ot {zv:Value} {z:List K} {n:Nat} (hm:zv.cells.toList.mapM FF=some z) (jZ:0<z.length):∀k,k<n->∃c,z[k % z.length]? =some c/\((Array.range n).map (zv.cells[· % zv.cells.size]!))[k]? =some c.val:=by
 intro k hk
 obtain⟨h1,h2⟩:=qx hm
 have fb:zv.cells.size=z.length:=by simpa using h1.symm
 have dV:k % z.length<z.length:=Nat.mod_lt _ jZ
 refine⟨z[k % z.length],List.getElem?_eq_getElem dV,?_⟩
 have h3:=h2 _ _ (List.getElem?_eq_getElem dV)
 simp only[Array.getElem?_toList]at h3
 have Am:k % z.length<zv.cells.size:=by rw[fb];exact dV
 rw[Array.getElem?_map,Array.getElem?_range,if_pos hk]
 simp only[Option.map_some]
 rw[fb,getElem!_pos zv.cells (k % z.length) Am]
 rw[Array.getElem?_eq_getElem Am]at h3
 exact h3
theorem Ib {t e:TypeId} {len sz:Nat} {ps:Array (Nat×Operand)} {z:List K} {l:List (Nat×O)} {rs:List (List AV)} (E:cF P w D ι env a) (ho:o.op=.buildSlice t len ps) (ht:P.underlying t=some (.slice e)) (fb:dW P e=some (sz+1)) (hz:jq P e=some z)
  (hl:rj P ps=some l) (BE:len*(sz+1)<=4096) (Qo:l.map (·.1)=List.range len) (hv:rowsOf (sz+1) (l.map fun x=>cJ env x.2)=some rs):Mk P a o w D ι id (.own id 0 len) ⟨true,sz+1,rs⟩:=by
 obtain⟨it,zv,hi,uB,hs,hm,Ej⟩:=jE hz
 have jk:it.size=sz+1:=by simpa[dW,hi]using fb
 obtain⟨n1,r1⟩:=ph E hl
 have Al:l.length=len:=by have:=congrArg List.length Qo;simpa using this
 by_cases h0:len=0
 ·subst h0
  have RF:l=[]:=List.length_eq_zero_iff.1 Al
  subst RF
  simp[rowsOf]at hv;subst hv
  have RM:ps= #[]:=by
   apply Array.ext';apply List.eq_nil_of_length_eq_zero;rw[<-n1];rfl
  subst RM
  refine⟨.slice (some ⟨w.heap.size,0,none⟩) 0 0, #[],e,?_,rfl,by simp,by simp,by simp,fun i j cs x hi=>by simp at hi,fun ι' hι=>?_⟩
  ·simp[execOp,ho,Instr.buildSlice,run_underlying ht,sizeOf,typeInfo,hi,Instr.fill,newRow,Array.range_zero']
  ·exact .own _ 0 0 0 0 _ hι rfl (Nat.le_refl _) (.inl rfl) (by simp) (by simp[maxLen])
 ·have xg:eZ P w D ι ((List.range (len*(sz+1))).map fun k=>(z.getD (k % z.length) .bP).av) ((Array.range (len*(sz+1))).map (zv.cells[· % zv.cells.size]!)):=by
   refine⟨by simp,fun j x hx=>?_⟩
   simp only[List.getElem?_map,Option.map_eq_some_iff]at hx
   obtain⟨k,hk,rfl⟩:=hx
   have kJ:=(List.getElem?_eq_some_iff.1 hk).1
   simp at kJ
   rw[List.getElem?_range kJ]at hk
   injection hk with hk
   subst hk
   obtain⟨c,hc,hcv⟩:=ot hm (by rw[Ej,jk];omega) j kJ
   exact⟨c.val,hcv,by rw[List.getD_eq_getElem?_getD,hc];exact uS c⟩
  obtain⟨f1,f2,f3,f4⟩:=ue (l.map fun x=>cJ env x.2) (sz+1) 0 rs ((List.range (len*(sz+1))).map fun k=>(z.getD (k % z.length) .bP).av) (by omega) (by simp[Al]) hv
  obtain⟨iU,h1,h2,h3,h4⟩:=uf (P:=P) (w:=w) (D:=D) (ι:=ι) (fun i=>some (i*it.size,it.size)) (ps.toList.map fun(i,x)=>(i,a.eval x)) _ _ _ _ xg
   (fun b hb=>by obtain⟨c,_,rfl⟩:=List.mem_map.1 hb;exact K.l6 _) (by simp[n1]) (fun k i u o' n x tx sZ=>by
   simp only[List.getElem?_map,Option.map_eq_some_iff]at tx sZ
   obtain⟨⟨i',x'⟩,hp,e1⟩:=tx
   obtain⟨⟨v2,j2⟩,Kg,e2⟩:=sZ
   simp only[Prod.mk.injEq]at e1 e2
   obtain⟨rfl,rfl⟩:=e1
   obtain⟨rfl,rfl,rfl⟩:=e2
   rw[List.getElem?_zipIdx]at Kg
   simp only[List.getElem?_map,Option.map_map,Option.map_eq_some_iff,Function.comp_apply,Prod.mk.injEq,Nat.zero_add]at Kg
   obtain⟨⟨i2,y⟩,HF,rfl,rfl⟩:=Kg
   obtain⟨x2,zx,hc⟩:=r1 _ _ _ HF
   rw[hp]at zx
   simp only[Option.some.injEq,Prod.mk.injEq]at zx
   obtain⟨rfl,rfl⟩:=zx
   have w8:(l.map (·.1))[k]? =some i':=by rw[List.getElem?_map,HF];rfl
   have kJ:=(List.getElem?_eq_some_iff.1 w8).1
   rw[Qo]at w8
   simp at kJ
   rw[List.getElem?_range (by omega)]at w8
   injection w8 with w8
   subst w8
   exact⟨by rw[jk],cZ E hc⟩) f1
  simp only[Nat.zero_mul,List.take_zero,List.nil_append,List.length_map]at h2 h3 h4 f2
  have di:iU.size=len*(sz+1):=by rw[h2.1,h4];simp
  refine⟨.slice (some ⟨w.heap.size,0,none⟩) len len,iU,e,?_,rfl,?_,f3,f4,fun i j cs x pT hj=>h2.2 _ _ (flat_get f3 pT hj),fun ι' hι=>?_⟩
  ·have gW:=run_buildSlice (P:=P) w t e len (ps.map fun(i,x)=>(i,a.eval x)) iU it zv ht hi uB (by rw[jk];omega) (by rw[jk];exact Nat.mul_ne_zero h0 (by omega)) (by rw[<-jk]at h1;simpa using h1)
   simp only[execOp,ho,Sem.run_bind,gW,Result.andThen_ok,Sem.run_pure]
  ·dsimp only;rw[f2,Al,di];exact Nat.le_refl _
  ·refine .own _ 0 len 0 len _ hι rfl (Nat.le_refl _) (.inr (by simp)) ?_ (by simp only[maxLen];have:=Nat.le_mul_of_pos_right len (show 0<sz+1 by omega);omega)
   dsimp only;rw[di];simp
theorem FP {t e:TypeId} {it:TypeInfo} {m:Nat} {z:List K} {l c:Operand} {l' c':O} {n:Nat} {r:Row} (E:cF P w D ι env a) (ho:o.op=.makeSlice t l c) (ht:P.underlying t=some (.slice e)) (fb:dW P e=some (m+1)) (hz:jq P e=some z) (S6:P.info? e=some it) (hby:it.bytes<=32768)
  (hl:cO P l=some l') (hc:cO P c=some c') (hv:fQ z (cJ env l') (cJ env c')=some (n,r)):Mk P a o w D ι id (.own id 0 n) r:=by
 obtain⟨it',zv,hi,uB,hs,hm,Ej⟩:=jE hz
 rw[S6]at hi;injection hi with hi;subst hi
 have jk:it.size=m+1:=by simpa[dW,S6]using fb
 unfold fQ at hv
 split at hv
 ·rename_i k1 ln k2 cn e1 e2
  split at hv
  ·rename_i hb
   obtain⟨b1,b2,b3⟩:=hb
   simp at hv
   obtain⟨rfl,rfl⟩:=hv
   have r1:=dh (e1▸cZ E hl)
   have r2:=dh (e2▸cZ E hc)
   unfold cY at b3
   have Lu:(it.bytes:Int)*cn<=281474976710656:=by
    have h1:(it.bytes:Int)<=32768:=by omega
    have h2:(it.bytes:Int)*cn<=32768*16777216:=Int.mul_le_mul h1 (by omega) (by omega) (by omega)
    omega
   have gW:=run_make (P:=P) w t e it zv ht S6 uB k1 k2 ln cn b1 b2 Lu (by omega)
   have j0:∀k,k<cn.toNat*it.size->∃x,z[k % z.length]? =some x/\(madeCells zv.cells (cn.toNat*it.size))[k]? =some x.val:=fun k hk=>ot hm (by rw[Ej,jk];omega) k hk
   refine⟨.slice (some ⟨w.heap.size,0,none⟩) ln.toNat cn.toNat,madeCells zv.cells (cn.toNat*it.size),e,by simp only[execOp,ho,r1,r2,Sem.run_bind,gW,Result.andThen_ok,Sem.run_pure],rfl,?_,?_,?_,?_,fun ι' hι=>?_⟩
   ·simp only[List.length_replicate,size_madeCells,Ej]
    exact Nat.mul_le_mul_right _ (by omega)
   ·intro cs di
    have:=List.eq_of_mem_replicate di
    subst this;simp
   ·intro cs di x hx
    have:=List.eq_of_mem_replicate di
    subst this
    obtain⟨c,_,rfl⟩:=List.mem_map.1 hx;exact c.l6
   ·intro i j cs x pT hj
    have o7:=(List.getElem?_eq_some_iff.1 pT).1
    have:=List.eq_of_mem_replicate (List.mem_of_getElem? pT)
    subst this
    simp only[List.length_replicate]at o7
    simp only[List.getElem?_map,Option.map_eq_some_iff]at hj
    obtain⟨q,hq,rfl⟩:=hj
    have gC:=(List.getElem?_eq_some_iff.1 hq).1
    dsimp only
    obtain⟨x,hx,zx⟩:=j0 (i*z.length+j) (by
     rw[<-Ej]
     calc i*z.length+j<i*z.length+z.length:=by omega
      _=(i+1)*z.length:=by rw[Nat.add_mul,Nat.one_mul]
      _<=cn.toNat*z.length:=Nat.mul_le_mul_right _ (by omega))
    rw[Nat.mul_comm i,Nat.mul_add_mod,Nat.mod_eq_of_lt gC,hq]at hx
    injection hx with hx;subst hx
    exact⟨_,by rw[Nat.mul_comm i]at zx ⊢;exact zx,uS q⟩
   ·refine .own _ 0 _ 0 _ _ hι rfl (by omega) (.inr (by simp)) ?_ (by simp only[maxLen];omega)
    dsimp only;rw[size_madeCells,Ej];simp
  ·simp at hv
 ·simp at hv
end
end Go.Proofs.YtgoljkjaameagaaGreat.V

namespace Go.Proofs.YtgoljkjaameagaaGreat.V
open Go.RowKit
variable {P:Program} {w w':World} {D D':Nat->Prop} {ι ι':Names}
def DI (P:Program) (k:TypeId) (m:MK):Prop:=
 (∃s,m=⟨false,[s]⟩/\e9 P k=some s)∨
 (∃fs ts,m=⟨true,ts⟩/\P.underlying k=some (.struct fs)/\ez P 4 0 fs.toList=some ts/\P.stoodInHeld k=false/\∀f∈fs.toList,(e9 P f.type).isSome=true)
theorem qb {t:TypeId} {m:MK} {z:K} (h:rh P t=some (m,z)):∃k e i zv,P.underlying t=some (.map k e)/\P.info? e=some i/\i.zero=some zv/\FF zv=some z/\DI P k m:=by
 unfold rh at h
 split at h
 ·rename_i k e ht
  split at h
  ·rename_i zv s h1 h2 h3
   simp only[Option.map_eq_some_iff,Prod.mk.injEq]at h
   obtain⟨z',hz,rfl,rfl⟩:=h
   simp only[Option.bind_eq_some_iff]at h2
   obtain⟨i,hi,uB⟩:=h2
   exact⟨k,e,i,zv,ht,hi,uB,hz,.inl ⟨s,rfl,h3⟩⟩
  ·rename_i zv fs h1 h2 h3 h4
   split at h
   ·rename_i ts z' wb hz
    split at h
    ·rename_i hc
     simp only[Option.some.injEq,Prod.mk.injEq]at h
     obtain⟨rfl,rfl⟩:=h
     simp only[Option.bind_eq_some_iff]at h2
     obtain⟨i,hi,uB⟩:=h2
     simp only[Bool.not_eq_true',List.all_eq_true]at hc
     exact⟨k,e,i,zv,ht,hi,uB,hz,.inr ⟨fs,ts,rfl,h4,wb,hc.1,hc.2⟩⟩
    ·cases h
   ·cases h
  ·cases h
 ·cases h
theorem uW {t:TypeId} {s:TS} (ht:e9 P t=some s) (em:Bool) (n:Nat) (v:Value):(Instr.checkKey em (n+1) t v).run P w=.ok () w:=by
 unfold Instr.checkKey
 cases s with
 |tB=>simp[run_underlying (oH ht)]
 |tS=>simp[run_underlying (oJ ht)]
 |tI=>
  obtain⟨q,hq⟩:=oI ht
  simp[run_underlying hq]
theorem uY (em:Bool) (n:Nat) (vs:Array Value):∀(d:Nat) (fs:List Field) (off:Nat) (ts:List TS),ez P (d+1) off fs=some ts->(∀f∈fs,(e9 P f.type).isSome=true)->off+ts.length<=vs.size->
  Sem.run P (forIn fs PUnit.unit fun f (_:PUnit)=>if f.name≠ "_" then do
    let x <-Go.part f.type vs f.offset
    Instr.checkKey em (n+1) f.type x
    pure (ForInStep.yield PUnit.unit)
   else pure (ForInStep.yield PUnit.unit)) w=Result.ok PUnit.unit w
 |d,[],off,ts,_,_,_=>by simp
 |d,f::r,off,ts,hf,hs,hl=>by
  rw[wW]at hf
  split at hf
  ·rename_i hcond
   obtain⟨ho,gF⟩:=hcond
   split at hf
   ·rename_i s OY
    split at hf
    ·rename_i tq
     simp only[Option.map_eq_some_iff]at hf
     obtain⟨L7,hr,rfl⟩:=hf
     simp only[List.length_cons]at hl
     have ih:=uY em n vs d r (off+1) L7 hr (fun f hf=>hs f (List.mem_cons_of_mem _ hf)) (by omega)
     have hu:vs[off]? =some vs[off]:=by simp
     simp only[List.forIn_cons,Sem.run_bind,if_pos gF,ho,lQ tq hu,Result.andThen_ok,uW OY,Sem.run_pure]
     exact ih
    ·cases hf
   ·rename_i hn
    have:=hs f (by simp)
    rw[hn]at this;cases this
  ·cases hf
theorem Df {k:TypeId} {m:MK} (hk:DI P k m) (em:Bool) (key:AV) (u:Value) (tq:key.isAgg=m.ka) (hlen:key.cells.length=m.ks) (hr:cV P w D ι key u):(Instr.checkKey em 10000 k u).run P w=.ok () w:=by
 rcases hk with⟨s,rfl,hs⟩|⟨fs,ts,rfl,ql,wb,er,dH⟩
 ·exact uW hs em 9999 u
 ·cases key<;>simp[AV.isAgg]at tq
  rename_i cs
  obtain⟨vs,f,rfl,h1,_⟩:=iA hr
  unfold Instr.checkKey
  simp only[Sem.run_bind,run_underlying ql,Result.andThen_ok]
  rw[<-Array.forIn_toList]
  have h:=uY (P:=P) (w:=w) em 9998 vs 3 fs.toList 0 ts wb dH (by simp[AV.cells,MK.ks]at hlen;omega)
  rw[h]
  rfl
theorem GZ (a b:ByteArray):(a==b)=decide (a=b):=by
 by_cases h:a=b
 ·subst h;rw[decide_eq_true rfl]
  obtain⟨x⟩:=a
  show(x==x)=true
  simp
 ·rw[decide_eq_false h,Bool.eq_false_iff]
  intro hc
  obtain⟨x⟩:=a
  obtain⟨y⟩:=b
  exact h (by rw[show x=y by simpa using(show(x==y)=true from hc)])
theorem IC {t:TypeId} {s:TS} {x y:AV} {u v:Value} {b:Bool} {d:TypeDesc} (ht:e9 P t=some s) (hd:P.underlying t=some d) (he:e6 s x y=some b) (hx:cV P w D ι x u) (hy:cV P w D ι y v):Instr.sameNow d u v=some b:=by
 unfold e6 at he
 split at he
 ·rename_i k n k' n'
  split at he
  ·rename_i hk
   subst hk
   simp at he;subst he
   obtain⟨q,hq⟩:=oI ht
   rw[hd]at hq;injection hq with hq;subst hq
   rw[dh hx,dh hy]
   simp[Instr.sameNow]
   rfl
  ·cases he
 ·simp at he;subst he
  have hq:=oH ht
  rw[hd]at hq;injection hq with hq;subst hq
  rw[eP hx,eP hy];rfl
 ·rename_i a c
  simp at he;subst he
  have hq:=oJ ht
  rw[hd]at hq;injection hq with hq;subst hq
  rw[fq hx,fq hy]
  simp only[Instr.sameNow,GZ]
 ·cases he
def Found (es:List MapEntry) (i:Nat) (r:Option Nat) (res:Option (Nat×Value)):Prop:=(r=none/\res=none)∨∃j e,r=some (i+j)/\es[j]? =some e/\res=some (i+j,e.val)
theorem uh {e:MapEntry} {es:List MapEntry} {i:Nat} {r:Option Nat} {res:Option (Nat×Value)} (h:Found es (i+1) r res):Found (e::es) i r res:=by
 rcases h with h|⟨j,x,h1,h2,h3⟩
 ·exact .inl h
 ·exact .inr ⟨j+1,x,by rw[h1];congr 1;omega,by simpa using h2,by rw[h3];congr 2;omega⟩
theorem zZ {t:TypeId} {s:TS} {d:TypeDesc} {x:AV} {u:Value} (ht:e9 P t=some s) (hd:P.underlying t=some d) (hx:cV P w D ι x u):∀(rows:List (List AV)) (es:List MapEntry) (i:Nat) (r:Option Nat),es.length=rows.length->
  (∀(j:Nat) (cs:List AV),rows[j]? =some cs->∃(e:MapEntry) (kv:AV),es[j]? =some e/\cs.head? =some kv/\cV P w D ι kv e.key)->ib ⟨false,[s]⟩ [x] rows i=some r->∃res,Instr.findNow d u es i=some res/\Found es i r res
 |[],[],i,r,_,_,h=>by
  simp[ib]at h;subst h
  exact⟨none,rfl,.inl ⟨rfl,rfl⟩⟩
 |[],e::es,i,r,hl,_,h=>by simp at hl
 |cs::rows,[],i,r,hl,_,h=>by simp at hl
 |cs::rows,e::es,i,r,hl,hr,h=>by
  obtain⟨e',kv,J1,hk,gH⟩:=hr 0 cs rfl
  simp at J1;subst J1
  have di:cs.take (MK.ks ⟨false,[s]⟩)=[kv]:=by
   cases cs with
   |nil=>simp at hk
   |cons a l=>simp at hk;subst hk;simp[MK.ks]
  unfold ib at h
  rw[di]at h
  cases hq:e6 s x kv with
  |none=>simp[eF,hq]at h
  |some b=>
   have hs:=IC ht hd hq hx gH
   cases b with
   |true=>
    simp[eF,hq]at h;subst h
    exact⟨some (i,e.val),by simp[Instr.findNow,hs],.inr ⟨0,e,rfl,rfl,rfl⟩⟩
   |false=>
    simp[eF,hq]at h
    obtain⟨res,h1,h2⟩:=zZ ht hd hx rows es (i+1) r (by simpa using hl) (fun j cs hj=>hr (j+1) cs (by simpa using hj)) h
    exact⟨res,by simp[Instr.findNow,hs,h1],uh h2⟩
theorem o8 {t:TypeId} {fs:Array Field} {ts:List TS} {xs ys:List AV} {vs us:Array Value} {b:Bool} (ql:P.underlying t=some (.struct fs)) (er:P.stoodInHeld t=false) (wb:ez P 4 0 fs.toList=some ts) (hx:eZ P w D ι xs vs) (hy:eZ P w D ι ys us) (hv:eF ts xs ys=some b):(Op.equal t (.agg vs) (.agg us)).run P w=.ok b w:=by
 obtain⟨l1,l2⟩:=qh hv
 have q:=qF (w:=w) 4 fs.toList 0 ts wb 9998 (by omega) xs ys vs us b hx hy (by simpa[List.take_of_length_le,l1,l2]using hv)
 have Ly:P.fieldsOf t=fs:=by simp[Program.fieldsOf,ql]
 unfold Op.equal
 rw[show Op.maxDepth=9999+1 from rfl,run_equalIn_struct w 9999 t _ _ (by rw[Ly];exact ql) er,Ly,q]
theorem qD {cs:List AV} {v:Value} (h:cV P w D ι (.agg cs) v):∃vs,v=.agg vs/\eZ P w D ι cs vs:=by
 obtain⟨vs,f,rfl,n1,_,f1,r1⟩:=iA h
 exact⟨vs,rfl,n1,fun j a ha=>⟨f j,f1 j (List.getElem?_eq_some_iff.1 ha).1,r1 j a ha⟩⟩
theorem zY {t:TypeId} {fs:Array Field} {ts:List TS} {xs:List AV} {vs:Array Value} (ql:P.underlying t=some (.struct fs)) (er:P.stoodInHeld t=false) (wb:ez P 4 0 fs.toList=some ts) (hx:eZ P w D ι xs vs):∀(rows:List (List AV)) (es:List MapEntry) (i:Nat) (r:Option Nat),es.length=rows.length->
  (∀(j:Nat) (cs:List AV),rows[j]? =some cs->∃e:MapEntry,es[j]? =some e/\cV P w D ι (.agg (cs.take ts.length)) e.key)->ib ⟨true,ts⟩ xs rows i=some r->∃res,(Instr.findAsking t (.agg vs) es i).run P w=.ok res w/\Found es i r res
 |[],[],i,r,_,_,h=>by
  simp[ib]at h;subst h
  exact⟨none,by simp[Instr.findAsking],.inl ⟨rfl,rfl⟩⟩
 |[],e::es,i,r,hl,_,h=>by simp at hl
 |cs::rows,[],i,r,hl,_,h=>by simp at hl
 |cs::rows,e::es,i,r,hl,hr,h=>by
  obtain⟨e',J1,gH⟩:=hr 0 cs rfl
  simp at J1;subst J1
  obtain⟨us,hk,hy⟩:=qD gH
  unfold ib at h
  simp only[MK.ks]at h
  split at h
  ·rename_i hq
   simp at h;subst h
   have q:=o8 ql er wb hx hy hq
   exact⟨some (i,e.val),by simp[Instr.findAsking,hk,q],.inr ⟨0,e,rfl,rfl,rfl⟩⟩
  ·rename_i hq
   have q:=o8 ql er wb hx hy hq
   obtain⟨res,h1,h2⟩:=zY ql er wb hx rows es (i+1) r (by simpa using hl) (fun j cs hj=>hr (j+1) cs (by simpa using hj)) h
   exact⟨res,by simp[Instr.findAsking,hk,q,h1],uh h2⟩
  ·cases h
theorem ub {a:AV} (h:a.isAgg=false):a.cells=[a]:=by cases a<;>simp_all [AV.isAgg,AV.cells]
theorem ug {k:TypeId} {m:MK} {B:r9} {r:Row} (hk:DI P k m) {key:AV} {u:Value} (hr:cV P w D ι key u) {es:Array MapEntry} (fb:es.size=r.rows.length)
  (hM:∀(i:Nat) (cs:List AV),r.rows[i]? =some cs->∃(e:MapEntry) (kv vv:AV),es[i]? =some e/\part m.ka m.ks cs=some kv/\cs[m.ks]? =some vv/\cV P w D ι kv e.key/\cV P w D ι vv e.val) {fi:Option Nat} (h:gS m key r.rows=some fi):
  (∀em,(Instr.checkKey em 10000 k u).run P w=.ok () w)/\∃res,(Instr.findKey k u es.toList).run P w=.ok res w/\Found es.toList 0 fi res:=by
 unfold gS at h
 split at h
 ·rename_i hc
  obtain⟨c1,c2,c3⟩:=hc
  refine⟨fun em=>Df hk em key u c1 c2 hr,?_⟩
  rcases hk with⟨s,rfl,hs⟩|⟨fs,ts,rfl,ql,wb,er,dH⟩
  ·rw[ub c1]at h
   have hd:∃d,P.underlying k=some d:=by
    cases s with
    |tB=>exact⟨_,oH hs⟩
    |tS=>exact⟨_,oJ hs⟩
    |tI=>obtain⟨q,hq⟩:=oI hs;exact⟨_,hq⟩
   obtain⟨d,hd⟩:=hd
   obtain⟨res,h1,h2⟩:=zZ hs hd hr r.rows es.toList 0 fi (by simpa using fb) (fun j cs hj=>by
    obtain⟨e,kv,vv,q1,q2,_,q4,_⟩:=hM j cs hj
    exact⟨e,kv,by simpa using q1,by simpa[part]using q2,q4⟩) h
   exact⟨res,by simp[Instr.findKey,run_underlying hd,h1],h2⟩
  ·cases key<;>simp[AV.isAgg]at c1
   rename_i cs
   obtain⟨vs,rfl,hL⟩:=qD hr
   obtain⟨res,h1,h2⟩:=zY ql er wb hL r.rows es.toList 0 fi (by simpa using fb) (fun j cs hj=>by
    obtain⟨e,kv,vv,q1,q2,_,q4,_⟩:=hM j cs hj
    unfold part at q2
    simp only[if_true]at q2
    split at q2
    ·simp only[Option.some.injEq]at q2;subst q2
     exact⟨e,by simpa using q1,q4⟩
    ·cases q2) h
   exact⟨res,(run_findKey_eq w (by simp[ql]) _ _).trans h1,h2⟩
 ·cases h
section
variable {g:Rows} {hs:Nat} {env:Env} {a:Act} {o:Oper} {id:Id} {v:AV}
theorem yO {m:MK} {x:AV} {u:Value} {p:Id×Row} (S:gp P hs D ι g w) (hr:cV P w D ι x u) (h:de g m x=some p):∃B,u=.map (some B.b)/\g p.1=some p.2/\ι p.1=some B/\B.k=some (.map m)/\Lk P w D ι B m p.2:=by
 unfold de at h
 split at h
 ·rename_i i m'
  split at h
  ·rename_i hm
   subst hm
   simp only[Option.map_eq_some_iff]at h
   obtain⟨r,hg,rfl⟩:=h
   obtain⟨B,rfl,hB,hk⟩:=KW hr
   obtain⟨B',dJ,R,_⟩:=S.row i r hg
   rw[hB]at dJ;injection dJ with dJ;subst dJ
   exact⟨B,rfl,hg,hB,hk,(R.map _ hk).2⟩
  ·cases h
 ·cases h
theorem Oq {t:TypeId} {x k:Operand} {ok:Bool} {m:MK} {z:K} {x' k':O} {mr:Option Row} (S:gp P hs D ι g w) (E:cF P w D ι env a) (ho:o.op=.lookup t x k ok) (hc:rh P t=some (m,z)) (hx:cO P x=some x') (hk:cO P k=some k')
  (hv:bj (.look m ok z) [cJ env x',cJ env k'] g id=some (v,mr)):mr=none/\nz P a o w D ι v:=by
 obtain⟨kt,e,i,zv,ht,hi,uB,RE,hK⟩:=qb hc
 simp only[bj,Option.bind_eq_some_iff,Option.map_eq_some_iff,Prod.mk.injEq]at hv
 obtain⟨p,hp,fi,Lx,y,hy,rfl,rfl⟩:=hv
 obtain⟨B,hu,hg,hB,tn,es,clock,hb,fb,hlen,hM⟩:=yO S (cZ E hx) hp
 obtain⟨Jg,res,hf,hF⟩:=ug (B:=B) hK (cZ E hk) fb hM Lx
 have key:∃val,(match res with|some (_,v)=>(v,true)|none=>(zv,false))=(val,fi.isSome)/\cV P w D ι y val:=by
  rcases hF with⟨rfl,rfl⟩|⟨j,en,rfl,he,rfl⟩
  ·simp only[dn,Option.some.injEq]at hy;subst hy
   refine⟨zv,rfl,?_⟩
   rw[yF RE];exact uS z
  ·simp only[dn,Option.bind_eq_some_iff,Nat.zero_add]at hy
   obtain⟨cs,di,hy⟩:=hy
   obtain⟨e',kv,vv,q1,_,q3,_,q5⟩:=hM _ cs di
   rw[hy]at q3;injection q3 with q3;subst q3
   have:e'=en:=by
    have h1:es.toList[j]? =some e':=by simpa using q1
    rw[he]at h1;injection h1 with h1;exact h1.symm
   subst this
   exact⟨_,rfl,q5⟩
 obtain⟨val,rM,kW⟩:=key
 have eT:(getObj B.b).run P w=.ok (.map es clock) w:=MapKept.run_getObj_map hb
 have hz:(zeroValue e).run P w=.ok zv w:=by simp[zeroValue,typeInfo,hi,uB]
 refine⟨rfl,if ok then .tuple #[val,.bool fi.isSome]else val,?_,?_⟩
 ·simp only[execOp,ho,hu,Instr.lookup,Sem.run_bind,run_underlying ht,Result.andThen_ok,eT,Sem.run_pure,Jg,hf]
  rcases hF with⟨rfl,rfl⟩|⟨j,en,rfl,he,rfl⟩
  ·simp only[Prod.mk.injEq]at rM
   simp[hz,rM.1]
  ·simp only[Prod.mk.injEq]at rM
   simp[rM.1]
 ·cases ok with
  |false=>exact kW
  |true=>
   refine .ij _ _ (fun j=>if j=0 then val else .bool fi.isSome) rfl (fun j hj=>?_) (fun j b hj=>?_)
   ·have:j=0∨j=1:=by simp at hj;omega
    rcases this with rfl|rfl<;>rfl
   ·match j,hj with
    |0,hj=>simp at hj;subst hj;exact kW
    |1,hj=>simp at hj;subst hj;exact .eH _ _ (.bool _)
    |j+2,hj=>simp at hj
theorem Ov {t:TypeId} {x:Operand} {m:MK} {z:K} {x':O} {mr:Option Row} (S:gp P hs D ι g w) (E:cF P w D ι env a) (ho:o.op=.call {callee:=.builtin .len,args:= #[x],argTypes:= #[t]}) (hc:rh P t=some (m,z)) (hx:cO P x=some x')
  (hv:bj (.len m) [cJ env x'] g id=some (v,mr)):mr=none/\nz P a o w D ι v:=by
 obtain⟨kt,e,i,zv,ht,hi,uB,RE,hK⟩:=qb hc
 simp only[bj,Option.map_eq_some_iff,Prod.mk.injEq]at hv
 obtain⟨p,hp,rfl,rfl⟩:=hv
 obtain⟨B,hu,hg,hB,tn,es,clock,hb,fb,hlen,hM⟩:=yO S (cZ E hx) hp
 have eT:(getObj B.b).run P w=.ok (.map es clock) w:=MapKept.run_getObj_map hb
 refine⟨rfl,.int .i64 (es.size:Int),?_,by rw[fb];exact .eH _ _ (.int _ _)⟩
 simp only[execOp,ho,resolve,Sem.run_bind,Sem.run_pure,Result.andThen_ok,invoke,builtin,Array.map,hu]
 simp[Builtin.len_,run_underlying ht,goInt,hu,eT]
def MkM (P:Program) (a:Act) (o:Oper) (w:World) (id:Id) (v:AV) (r:Row):Prop:=
 ∃m,(execOp a.eval o).run P w=.ok (.value (.map (some w.heap.size))) (w.alloc (.map #[] 0))/\v=.map id m/\r=⟨true,m.y7,[]⟩
theorem QF {t:TypeId} {m:MK} (ho:o.op=.makeMap t none):MkM P a o w id (.map id m) ⟨true,m.y7,[]⟩:=by
 refine⟨m,?_,rfl,rfl⟩
 simp[execOp,ho,Instr.makeMap,go_sem]
def MkC (P:Program) (a:Act) (o:Oper) (w:World) (id:Id) (v:AV) (r:Row):Prop:=
 ∃n,(execOp a.eval o).run P w=.ok (.value (.chan (some w.heap.size))) (w.alloc (.chan n #[] false 0 0 false))/\v=.rm id/\r=⟨true,qg+n,[]⟩
theorem NO {t e:TypeId} {x:Operand} {x':O} {dir:ChanDir} {i:TypeInfo} {n:Nat} (E:cF P w D ι env a) (ho:o.op=.makeChan t x) (ht:P.underlying t=some (.chan dir e)) (hi:P.info? e=some i) (hb:i.bytes<=32768) (hx:cO P x=some x') (hn:cw (cJ env x')=some n):MkC P a o w id (.rm id) ⟨true,qg+n,[]⟩:=by
 refine⟨n,?_,rfl,rfl⟩
 have hr:=cZ E hx
 unfold cw at hn
 split at hn
 ·rename_i k m hm
  rw[hm]at hr
  split at hn
  ·rename_i hc
   simp only[Option.some.injEq]at hn
   subst hn
   have LH:((m.toNat:Nat):Int)=m:=by omega
   have dV:(i.bytes:Int)*(m.toNat:Nat)<=281474976710544:=by
    have h1:i.bytes*m.toNat<=32768*1048576:=Nat.mul_le_mul hb (by omega)
    have h2:((i.bytes*m.toNat:Nat):Int)<=281474976710544:=by omega
    rwa [Int.natCast_mul]at h2
   have h:=Conc.run_makeChan (P:=P) (w:=w) ht hi k m.toNat (by omega) dV
   rw[LH]at h
   simp only[execOp,ho,dh hr,Sem.run_bind,h,Result.andThen_ok,Sem.run_pure]
  ·cases hn
 ·cases hn
theorem xV {x:AV} {u:Value} {i:Id} {r:Row} (S:gp P hs D ι g w) (hr:cV P w D ι x u) (hx:x=.rm i) (hg:g i=some r):∃B c,u=.chan (some B.b)/\ι i=some B/\B.k=some (.chan c)/\r.sz=qg+c/\GJ P w D ι B c r:=by
 subst hx
 obtain⟨B,c,rfl,hB,hk⟩:=KU hr
 obtain⟨B',dJ,R,_⟩:=S.row i r hg
 rw[hB]at dJ;injection dJ with dJ;subst dJ
 exact⟨B,c,rfl,hB,hk,R.chan c hk⟩
theorem Om {t e:TypeId} {dir:ChanDir} {x:Operand} {x':O} (S:gp P hs D ι g w) (E:cF P w D ι env a) (ho:o.op=.call {callee:=.builtin .len,args:= #[x],argTypes:= #[t]}) (ht:P.underlying t=some (.chan dir e)) (hx:cO P x=some x') (hv:cr g (cJ env x')=some v):nz P a o w D ι v:=by
 have hr:=cZ E hx
 unfold cr at hv
 split at hv
 ·rename_i i he
  simp only[Option.map_eq_some_iff]at hv
  obtain⟨r,hg,rfl⟩:=hv
  obtain⟨B,c,hu,hB,hk,fb,buf,s,q,hb,Jf,_⟩:=xV S hr he hg
  have eT:(getObj B.b).run P w=.ok (.chan c buf false s q false) w:=by simp[getObj,Sem.run,hb]
  refine⟨.int .i64 (buf.size:Int),?_,by rw[Jf];exact .eH _ _ (.int _ _)⟩
  simp only[execOp,ho,resolve,Sem.run_bind,Sem.run_pure,Result.andThen_ok,invoke,builtin,Array.map,hu]
  simp[Builtin.len_,run_underlying ht,goInt,hu,eT]
 ·cases hv
end
end Go.Proofs.YtgoljkjaameagaaGreat.V

namespace Go.Proofs.YtgoljkjaameagaaGreat.V
open Go.RowKit
variable {P:Program} {w w':World} {D D':Nat->Prop} {ι ι':Names}
def JA (P:Program) (a:Act) (o:Oper) (w:World) (D:Nat->Prop) (ι:Names) (id:Id) (v:AV):Option Row->Prop
 |none=>nz P a o w D ι v
 |some r=>Mk P a o w D ι id v r∨MkM P a o w id v r∨MkC P a o w id v r
section
variable {g:Rows} {hs:Nat} {env:Env} {a:Act} {o:Oper} {id:Id} {v:AV}
theorem kQ {x:Option AV} {mr:Option Row} (h:x.map (·,(none:Option Row))=some (v,mr)) (H:x=some v->nz P a o w D ι v):JA P a o w D ι id v mr:=by
 cases x with
 |none=>simp at h
 |some y=>simp at h;obtain⟨rfl,rfl⟩:=h;exact H rfl
theorem QN {neg:Bool} {t yt:TypeId} {x y:Operand} {vo:gh} {mr:Option Row} (ho:o.op=.binOp (if neg then .neq else .eql) t x y yt) (hc:rf P neg t x y=some vo) (hq:ec vo (cJ env) g id=some (v,mr)) (E:cF P w D ι env a):JA P a o w D ι id v mr:=by
 unfold rf at hc
 split at hc
 ·split at hc
  ·rename_i e ht
   simp only[Option.map_eq_some_iff]at hc
   obtain⟨x',hx,rfl⟩:=hc
   simp only[ec,dx,Bool.false_eq_true,if_false,Option.map_eq_some_iff,Prod.mk.injEq]at hq
   obtain⟨b,hb,rfl,rfl⟩:=hq
   exact Oh E ho ht hx hb
  ·simp at hc
 ·split at hc
  ·rename_i ht
   simp only[Option.map_eq_some_iff]at hc
   obtain⟨x',hx,rfl⟩:=hc
   simp only[ec,dx,if_true,Option.map_eq_some_iff,Prod.mk.injEq]at hq
   obtain⟨b,hb,rfl,rfl⟩:=hq
   exact Og E ho ht hx hb
  ·simp at hc
 ·split at hc
  ·rename_i ht
   simp only[Option.map_eq_some_iff]at hc
   obtain⟨x',hx,rfl⟩:=hc
   simp only[ec,Option.map_eq_some_iff,Prod.mk.injEq]at hq
   obtain⟨b,hb,rfl,rfl⟩:=hq
   exact Q1 E ho ht hx hb
  ·simp at hc
 ·split at hc
  ·rename_i s hs
   simp only[Option.bind_eq_bind,Option.bind_eq_some_iff,Option.pure_def,Option.some.injEq]at hc
   obtain⟨x',hx,y',hy,rfl⟩:=hc
   simp only[ec,Option.map_eq_some_iff,Prod.mk.injEq]at hq
   obtain⟨b,hb,rfl,rfl⟩:=hq
   have Aq:e9 P t=some s:=by
    unfold Sd at hs
    split at hs
    ·rename_i s' h;simp at hs;subst hs;exact h
    ·split at hs
     ·split at hs
      ·simp at hs
      ·simp at hs
     ·simp at hs
   exact Q2 E ho Aq hx hy hb
  ·rename_i ts hs
   simp only[Option.bind_eq_bind,Option.bind_eq_some_iff,Option.pure_def,Option.some.injEq]at hc
   obtain⟨x',hx,y',hy,rfl⟩:=hc
   simp only[ec]at hq
   split at hq
   ·rename_i xs ys h1 h2
    simp only[Option.map_eq_some_iff,Prod.mk.injEq]at hq
    obtain⟨b,hb,rfl,rfl⟩:=hq
    unfold Sd at hs
    split at hs
    ·simp at hs
    ·split at hs
     ·rename_i fs ql
      split at hs
      ·rename_i hg
       simp only[Option.map_eq_some_iff,R3.ag.injEq]at hs
       obtain⟨L7,wb,rfl⟩:=hs
       simp only[Bool.and_eq_true,Bool.not_eq_true']at hg
       exact Q0 E ho ql hg.1 hg.2 wb hx hy h1 h2 hb
      ·simp at hs
     ·simp at hs
   ·simp at hq
  ·simp at hc
theorem NT {c:Call} {vo:gh} {mr:Option Row} (ho:o.op=.call c) (hc:mK P c=some vo) (hq:ec vo (cJ env) g id=some (v,mr)) (S:gp P hs D ι g w) (E:cF P w D ι env a):JA P a o w D ι id v mr:=by
 unfold mK at hc
 split at hc
 ·rename_i j6
  split at hc
  ·rename_i x t h1 h2
   have hce:c={callee:=.builtin .len,args:= #[x],argTypes:= #[t]}:=by
    obtain⟨a,b,c⟩:=c
    simp only at h1 h2 j6
    subst j6
    congr
    ·exact Array.ext' h1
    ·exact Array.ext' h2
   rw[hce]at ho
   split at hc
   ·rename_i e ht
    simp only[Option.map_eq_some_iff]at hc
    obtain⟨x',hx,rfl⟩:=hc
    simp only[ec,Option.map_eq_some_iff,Prod.mk.injEq]at hq
    obtain⟨n,hn,rfl,rfl⟩:=hq
    exact Q3 E ho ht hx hn
   ·rename_i ht
    simp only[Option.map_eq_some_iff]at hc
    obtain⟨x',hx,rfl⟩:=hc
    exact kQ hq fun h=>On E ho ht hx h
   ·split at hc
    ·rename_i m z x' hm hx
     simp only[Option.some.injEq]at hc
     subst hc
     obtain⟨rfl,h⟩:=Ov (id:=id) S E ho hm hx hq
     exact h
    ·cases hc
   ·rename_i ht
    simp only[Option.map_eq_some_iff]at hc
    obtain⟨x',hx,rfl⟩:=hc
    exact kQ hq fun h=>Om S E ho ht hx h
   ·simp at hc
  ·simp at hc
 ·split at hc
  ·split at hc
   ·split at hc
    ·split at hc
     ·simp only[Option.bind_eq_bind,Option.bind_eq_some_iff,Option.pure_def,Option.some.injEq]at hc
      obtain⟨x',hx,y',hy,rfl⟩:=hc
      simp[ec]at hq
     ·simp at hc
    ·simp at hc
   ·simp at hc
  ·simp at hc
 ·split at hc
  ·split at hc
   ·split at hc
    ·simp only[Option.map_eq_some_iff]at hc
     obtain⟨x',hx,rfl⟩:=hc
     simp[ec]at hq
    ·simp at hc
   ·simp at hc
  ·simp at hc
 ·split at hc
  ·simp only[Option.map_eq_some_iff]at hc
   obtain⟨x',hx,rfl⟩:=hc
   simp[ec]at hq
  ·simp at hc
 ·simp only[Option.map_eq_some_iff]at hc
  obtain⟨x',hx,rfl⟩:=hc
  simp[ec]at hq
 ·split at hc
  ·split at hc
   ·simp only[Option.some.injEq]at hc
    subst hc
    simp[ec]at hq
   ·cases hc
  ·cases hc
 ·split at hc
  ·split at hc
   ·split at hc
    ·simp only[Option.bind_eq_bind,Option.bind_eq_some_iff,Option.pure_def,Option.some.injEq]at hc
     obtain⟨x',hx,y',hy,rfl⟩:=hc
     simp[ec]at hq
    ·simp at hc
   ·simp at hc
  ·simp at hc
 ·simp at hc
theorem xz {vo:gh} {mr:Option Row} (hc:pS P o.op=some vo) (hq:ec vo (cJ env) g id=some (v,mr)) (S:gp P hs D ι g w) (E:cF P w D ι env a):JA P a o w D ι id v mr:=by
 unfold pS at hc
 split at hc
 ·rename_i ho
  simp only[Option.map_eq_some_iff]at hc
  obtain⟨x',hx,rfl⟩:=hc
  simp[ec]at hq;obtain⟨rfl,rfl⟩:=hq
  exact L9 E (.inl ho) hx
 ·rename_i ho
  simp only[Option.map_eq_some_iff]at hc
  obtain⟨x',hx,rfl⟩:=hc
  simp[ec]at hq;obtain⟨rfl,rfl⟩:=hq
  exact L9 E (.inr ho) hx
 ·rename_i ho
  simp only[Option.bind_eq_bind,Option.bind_eq_some_iff,Option.pure_def,Option.some.injEq]at hc
  obtain⟨c',h1,x',h2,y',h3,rfl⟩:=hc
  exact kQ hq fun h=>Ow E ho h1 h2 h3 h
 ·rename_i ho
  simp only[Option.map_eq_some_iff]at hc
  obtain⟨z,hz,rfl⟩:=hc
  simp only[ec,Option.some.injEq,Prod.mk.injEq]at hq
  obtain⟨rfl,rfl⟩:=hq
  exact .inl (QG ho hz)
 ·rename_i ho
  simp only[Option.map_eq_some_iff]at hc
  obtain⟨x',hx,rfl⟩:=hc
  simp only[ec,Option.map_eq_some_iff,Prod.mk.injEq]at hq
  obtain⟨cs,di,rfl,rfl⟩:=hq
  exact .inl (QE E ho hx di)
 ·rename_i ho
  simp only[Option.bind_eq_bind,Option.bind_eq_some_iff,Option.pure_def,Option.some.injEq]at hc
  obtain⟨ag,h1,n,h2,x',h3,rfl⟩:=hc
  exact kQ hq fun h=>Oo S E ho h1 h2 h3 h
 ·rename_i ho
  simp only[Option.bind_eq_bind,Option.bind_eq_some_iff,Option.pure_def,Option.some.injEq]at hc
  obtain⟨n,h2,x',h3,y',h4,rfl⟩:=hc
  simp[ec]at hq
 ·rename_i ho
  simp only[Option.map_eq_some_iff]at hc
  obtain⟨x',hx,rfl⟩:=hc
  exact kQ hq fun h=>QZ E ho hx h
 ·rename_i op t x y yt ho
  unfold tV at hc
  split at hc
  ·exact QN (neg:=false) ho hc hq E
  ·exact QN (neg:=true) ho hc hq E
  ·simp only[Option.bind_eq_bind,Option.bind_eq_some_iff,Option.pure_def,Option.some.injEq]at hc
   obtain⟨x',h3,y',h4,rfl⟩:=hc
   exact kQ hq fun h=>Q6 (left:=true) E ho h3 h4 h
  ·simp only[Option.bind_eq_bind,Option.bind_eq_some_iff,Option.pure_def,Option.some.injEq]at hc
   obtain⟨x',h3,y',h4,rfl⟩:=hc
   exact kQ hq fun h=>Q6 (left:=false) E ho h3 h4 h
  ·rename_i n1 n2 n3 n4
   split at hc
   ·simp only[Option.bind_eq_bind,Option.bind_eq_some_iff,Option.pure_def,Option.some.injEq]at hc
    obtain⟨x',h3,y',h4,rfl⟩:=hc
    exact kQ hq fun h=>QY E ho n1 n2 h3 h4 h
   ·simp only[Option.bind_eq_bind,Option.bind_eq_some_iff,Option.pure_def,Option.some.injEq]at hc
    obtain⟨x',h3,y',h4,rfl⟩:=hc
    exact kQ hq fun h=>Oe E ho n1 n2 h3 h4 h
   ·simp at hc
 ·rename_i ho
  simp only[Option.map_eq_some_iff]at hc
  obtain⟨x',hx,rfl⟩:=hc
  exact kQ hq fun h=>Q5 E ho hx h
 ·rename_i ho
  simp only[Option.map_eq_some_iff]at hc
  obtain⟨x',hx,rfl⟩:=hc
  exact kQ hq fun h=>Q4 E ho hx h
 ·rename_i ho
  split at hc
  ·rename_i q k h1 h2
   simp only[Option.map_eq_some_iff]at hc
   obtain⟨x',hx,rfl⟩:=hc
   exact kQ hq fun h=>Of E ho h1 h2 hx h
  ·rename_i h1 h2
   simp only[Option.map_eq_some_iff]at hc
   obtain⟨x',hx,rfl⟩:=hc
   exact kQ hq fun h=>by
    have hr:=cZ E hx
    unfold bx at h
    split at h
    ·rename_i s hb
     simp at h;subst h
     rw[hb]at hr
     exact⟨.string s,by simp only[execOp,ho,fq hr,convert,Sem.run_bind,run_underlying h1,run_underlying h2,Result.andThen_ok,Sem.run_pure],.eH _ _ (.str _)⟩
    ·simp at h
  ·simp at hc
 ·rename_i ho
  split at hc
  ·rename_i e ht
   simp only[Option.bind_eq_bind,Option.bind_eq_some_iff,Option.pure_def,Option.some.injEq]at hc
   obtain⟨n,h1,x',h2,lo,h3,hi,h4,rfl⟩:=hc
   exact kQ hq fun h=>Lh S E ho ht h1 h2 h3 h4 h
  ·rename_i ht
   simp only[Option.bind_eq_bind,Option.bind_eq_some_iff,Option.pure_def,Option.some.injEq]at hc
   obtain⟨x',h2,lo,h3,hi,h4,rfl⟩:=hc
   exact kQ hq fun h=>Ja E ho ht h2 h3 h4 h
  ·simp at hc
 ·rename_i ho
  split at hc
  ·rename_i fs ql
   split at hc
   ·rename_i f hf
    split at hc
    ·rename_i m hm
     simp only[Option.map_eq_some_iff]at hc
     obtain⟨x',hx,rfl⟩:=hc
     exact kQ hq fun h=>Le E ho ql hf hm hx h
    ·simp at hc
   ·simp at hc
  ·simp at hc
 ·rename_i ho
  split at hc
  ·rename_i fs ql
   split at hc
   ·rename_i f hf
    simp only[Option.bind_eq_bind,Option.bind_eq_some_iff,Option.pure_def,Option.some.injEq]at hc
    obtain⟨ag,h1,n,h2,x',h3,rfl⟩:=hc
    exact kQ hq fun h=>Lf E ho ql hf h1 h2 h3 h
   ·simp at hc
  ·simp at hc
 ·rename_i ho
  split at hc
  ·rename_i e ht
   split at hc
   ·rename_i m hm
    simp only[Option.bind_eq_bind,Option.bind_eq_some_iff,Option.pure_def,Option.some.injEq]at hc
    obtain⟨x',h1,i',h2,rfl⟩:=hc
    exact kQ hq fun h=>Lg S E ho ht hm h1 h2 h
   ·simp at hc
  ·rename_i len e ht
   split at hc
   ·rename_i m hm
    simp only[Option.bind_eq_bind,Option.bind_eq_some_iff,Option.pure_def,Option.some.injEq]at hc
    obtain⟨x',h1,i',h2,rfl⟩:=hc
    exact kQ hq fun h=>Oi E ho ht hm h1 h2 h
   ·simp at hc
  ·simp at hc
 ·rename_i ho
  split at hc
  ·rename_i ht
   simp only[Option.bind_eq_bind,Option.bind_eq_some_iff,Option.pure_def,Option.some.injEq]at hc
   obtain⟨x',h1,i',h2,rfl⟩:=hc
   exact kQ hq fun h=>Ol E ho ht h1 h2 h
  ·rename_i len e ht
   simp only[Option.bind_eq_bind,Option.bind_eq_some_iff,Option.pure_def,Option.some.injEq]at hc
   obtain⟨ag,h0,n,h1,x',h2,i',h3,rfl⟩:=hc
   exact kQ hq fun h=>Oj E ho ht h0 h1 h2 h3 h
  ·simp at hc
 ·rename_i ho
  simp only[Option.map_eq_some_iff]at hc
  obtain⟨x',hx,rfl⟩:=hc
  exact kQ hq fun h=>Gv E ho hx h
 ·rename_i ho
  split at hc
  ·rename_i fs ql
   split at hc
   ·rename_i z l hz hl
    split at hc
    ·rename_i dH
     simp only[Option.map_eq_some_iff]at hc
     obtain⟨q,Kg,rfl⟩:=hc
     simp only[ec,Option.map_eq_some_iff,Prod.mk.injEq]at hq
     obtain⟨cs,di,rfl,rfl⟩:=hq
     exact Ld E ho ql hz hl (fun f hf=>by
      rw[Array.all_eq_true_iff_forall_mem]at dH
      exact dH f (Array.mem_toList_iff.1 hf)) Kg di
    ·simp at hc
   ·simp at hc
  ·rename_i len e ht
   split at hc
   ·rename_i z l n hz hl hn
    simp only[Option.some.injEq]at hc
    subst hc
    simp only[ec,Option.map_eq_some_iff,Prod.mk.injEq]at hq
    obtain⟨cs,di,rfl,rfl⟩:=hq
    exact I9 E ho ht hz hl hn di
   ·simp at hc
  ·simp at hc
 ·rename_i ho
  split at hc
  ·rename_i e ht
   split at hc
   ·rename_i sz z l h1 h2 h3
    split at hc
    ·rename_i hh
     simp only[Option.some.injEq]at hc
     subst hc
     simp only[ec,Option.map_eq_some_iff,Prod.mk.injEq]at hq
     obtain⟨rs,xd,rfl,rfl⟩:=hq
     exact .inl (Ib E ho ht h1 h2 h3 hh.1 hh.2 (by rw[List.map_map]at xd;exact xd))
    ·simp at hc
   ·simp at hc
  ·simp at hc
 ·rename_i ho
  split at hc
  ·rename_i hh
   simp only[Option.map_eq_some_iff]at hc
   obtain⟨l,hl,rfl⟩:=hc
   simp[ec]at hq;obtain⟨rfl,rfl⟩:=hq
   exact Ot E ho hh.1 hh.2 hl
  ·split at hc
   ·rename_i hh
    simp only[Option.map_eq_some_iff]at hc
    obtain⟨l,hl,rfl⟩:=hc
    simp[ec]at hq;obtain⟨rfl,rfl⟩:=hq
    exact Ou E ho hh.1 hh.2 hl
   ·simp at hc
 ·rename_i ho
  split at hc
  ·rename_i e ht
   split at hc
   ·rename_i m z i h1 h2 h3
    split at hc
    ·rename_i hb
     simp only[Option.bind_eq_bind,Option.bind_eq_some_iff,Option.pure_def,Option.some.injEq]at hc
     obtain⟨l',h4,c',h5,rfl⟩:=hc
     simp only[ec,Option.map_eq_some_iff,Prod.mk.injEq]at hq
     obtain⟨⟨n,r⟩,hr,rfl,rfl⟩:=hq
     exact .inl (FP E ho ht h1 h2 h3 hb h4 h5 hr)
    ·simp at hc
   ·simp at hc
  ·simp at hc
 ·rename_i ho
  exact NT ho hc hq S E
 ·rename_i ho
  split at hc
  ·rename_i dir e ht
   split at hc
   ·rename_i i hi
    split at hc
    ·rename_i hb
     simp only[Option.map_eq_some_iff]at hc
     obtain⟨x',hx,rfl⟩:=hc
     simp only[ec,Option.map_eq_some_iff,Prod.mk.injEq]at hq
     obtain⟨n,hn,rfl,rfl⟩:=hq
     exact .inr (.inr (NO E ho ht hi hb hx hn))
    ·cases hc
   ·cases hc
  ·cases hc
 ·simp only[Option.bind_eq_bind,Option.bind_eq_some_iff,Option.pure_def,Option.some.injEq]at hc
  obtain⟨x',_,y',_,rfl⟩:=hc
  simp[ec]at hq
 ·split at hc
  ·split at hc
   ·simp only[Option.map_eq_some_iff]at hc
    obtain⟨x',_,rfl⟩:=hc
    simp[ec]at hq
   ·cases hc
  ·cases hc
 ·rename_i ho
  split at hc
  ·rename_i m z hm
   simp only[Option.some.injEq]at hc
   subst hc
   simp only[ec,List.map_nil,bj,Option.some.injEq,Prod.mk.injEq]at hq
   obtain⟨rfl,rfl⟩:=hq
   exact .inr (.inl (QF ho))
  ·cases hc
 ·rename_i ho
  split at hc
  ·rename_i m z x' k' hm hx hk
   simp only[Option.some.injEq]at hc
   subst hc
   obtain⟨rfl,h⟩:=Oq (id:=id) S E ho hm hx hk hq
   exact h
  ·cases hc
 ·split at hc
  ·simp only[Option.some.injEq]at hc
   subst hc
   simp[ec]at hq
  ·cases hc
 ·split at hc
  ·simp only[Option.some.injEq]at hc
   subst hc
   simp[ec]at hq
  ·cases hc
 ·simp only[Option.some.injEq]at hc
  subst hc
  simp[ec]at hq
 ·simp only[Option.some.injEq]at hc
  subst hc
  simp[ec]at hq
 ·simp at hc
end
end Go.Proofs.YtgoljkjaameagaaGreat.V

namespace Go.Proofs.YtgoljkjaameagaaGreat.V
open Go.RowKit
variable {P:Program} {w w':World} {D D':Nat->Prop} {ι ι':Names}
def kF (ι:Names) (id:Id) (B:r9):Names:=fun i=>if i=id then some B else ι i
theorem ep (ι:Names) (id:Id) (B:r9):kF ι id B id=some B:=if_pos rfl
theorem fZ {ι:Names} {id:Id} {B:r9} (h:ι id=none):∀i B',ι i=some B'->kF ι id B i=some B':=fun i B' hi=>by
 have:i≠id:=by rintro rfl;rw[h]at hi;cases hi
 rw[kF,if_neg this];exact hi
theorem fY {ι:Names} {id i:Id} {B:r9} (h:i≠id):kF ι id B i=ι i:=if_neg h
section
variable {g:Rows} {hs:Nat} {env:Env} {a:Act} {o:Oper} {id:Id} {v:AV}
theorem kT.frame {B:r9} {r:Row} (h:kT P w D ι B r) (hb:w'.heap[B.b]? =w.heap[B.b]?) (hr:∀a v,cV P w D ι a v->cV P w' D' ι' a v):kT P w' D' ι' B r:=
 ⟨h.sz,by obtain⟨c,T,h1,h2⟩:=h.wL;exact⟨c,T,hb.trans h1,h2⟩,h.fits,h.len,h.flat,fun i j cs a hi hj=>by
  obtain⟨v,h1,h2⟩:=h.at_ i j cs a hi hj
  exact⟨v,(World.cell?_of_block (a:=⟨B.b,i*r.sz+j,none⟩) hb).trans h1,hr _ _ h2⟩⟩
theorem iq.frame {B:r9} {r:Row} (h:iq P w D ι B r) (hb:w'.heap[B.b]? =w.heap[B.b]?) (hr:∀a v,cV P w D ι a v->cV P w' D' ι' a v):iq P w' D' ι' B r:=
 ⟨h.sz,h.flat,fun hk=>(h.row hk).frame hb hr,fun m hm=>by
  obtain⟨h1,es,c,h2,h3,h5,h4⟩:=h.map m hm
  refine⟨h1,es,c,hb.trans h2,h3,h5,fun i cs hi=>?_⟩
  obtain⟨e,kv,vv,q1,q2,q3,q4,q5⟩:=h4 i cs hi
  exact⟨e,kv,vv,q1,q2,q3,hr _ _ q4,hr _ _ q5⟩,fun c hc=>by
  obtain⟨h1,buf,s,q,h2,h3,h4⟩:=h.chan c hc
  refine⟨h1,buf,s,q,hb.trans h2,h3,fun i cs hi=>?_⟩
  obtain⟨a,u,q1,q2,q3⟩:=h4 i cs hi
  exact⟨a,u,q1,q2,hr _ _ q3⟩⟩
theorem gp.kill (S:gp P hs D ι g w) (i:Id):gp P hs D ι (bG g i) w:=by
 refine⟨S.lo,S.dead,fun id r h=>?_,fun id ki r r' B B' h h' hw hB dJ hb=>?_⟩
 ·unfold bG at h;split at h
  ·cases h
  ·exact S.row id r h
 ·unfold bG at h h'
  split at h
  ·cases h
  ·split at h'
   ·cases h'
   ·exact S.inj id ki r r' B B' h h' hw hB dJ hb
theorem gp.sub {g':Rows} (S:gp P hs D ι g w) (h:∀id r,g' id=some r->g id=some r):gp P hs D ι g' w:=
 ⟨S.lo,S.dead,fun id r hr=>S.row id r (h id r hr),fun id ki r r' B B' h1 h2=>S.inj id ki r r' B B' (h _ _ h1) (h _ _ h2)⟩
theorem zk {hid:List Nat} {n:Nat} {g:Rows}:∀id r,eW hid n g id=some r->g id=some r:=fun id r h=>by
 cases hid with
 |nil=>exact h
 |cons a l=>
  have e:eW (a::l) n g id=if (a::l).contains id.site=true/\id.bW=n then none else g id:=rfl
  rw[e]at h
  by_cases hc:(a::l).contains id.site=true/\id.bW=n
  ·rw[if_pos hc]at h;cases h
  ·rw[if_neg hc]at h;exact h
theorem gp.stay (S:gp P hs D ι g w) (hb:∀b,b<w.heap.size->w'.heap[b]? =w.heap[b]?) (hz:w.heap.size<=w'.heap.size) (hD:∀b,D b->D' b) (hD':∀b,D' b->b<w'.heap.size) (kh:∀b,D' b->D b∨w.heap.size<=b) (hι:∀id B,ι id=some B->ι' id=some B):gp P hs D' ι' g w':=by
 have hr:∀a v,cV P w D ι a v->cV P w' D' ι' a v:=fun a v h=>h.frame (fun b hd=>hb b (S.dead b hd)) hD hι
 have lt:∀{id r B},g id=some r->ι id=some B->B.b<w.heap.size:=fun {id r B} h hB=>by
  obtain⟨B',dJ,R,_⟩:=S.row id r h
  rw[hB]at dJ;injection dJ with dJ;subst dJ
  exact R.lt
 refine⟨Nat.le_trans S.lo hz,hD',fun id r h=>?_,fun id ki r r' B B' h h' hw hB dJ he=>?_⟩
 ·obtain⟨B,hB,R,h1,h2⟩:=S.row id r h
  exact⟨B,hι _ _ hB,R.frame (hb _ (lt h hB)) hr,h1,fun hw hd=>by
   rcases kh _ hd with hd|hd
   ·exact h2 hw hd
   ·have:=lt h hB;omega⟩
 ·obtain⟨C,hC,_⟩:=S.row id r h
  obtain⟨C',Cv,_⟩:=S.row ki r' h'
  have e1:=hι _ _ hC
  have e2:=hι _ _ Cv
  rw[hB]at e1;injection e1 with e1;subst e1
  rw[dJ]at e2;injection e2 with e2;subst e2
  exact S.inj id ki r r' _ _ h h' hw hC Cv he
theorem Step.stay (S:gp P hs D ι g w) (hb:∀b,b<w.heap.size->w'.heap[b]? =w.heap[b]?) (hz:w.heap.size<=w'.heap.size) (e1:w'.os=w.os) (e2:w'.tape=w.tape) (e3:w'.output=w.output) (hD:∀b,D b->D' b) (kh:∀b,D' b->D b∨w.heap.size<=b) (hι:∀id B,ι id=some B->ι' id=some B):Step hs D ι w D' ι' w':=
 ⟨⟨e1,e2,e3,hz,fun k hk=>hb k (Nat.lt_of_lt_of_le hk S.lo)⟩,fun b hd=>hb b (S.dead b hd),hD,hι,fun b h=>(kh b h).imp_right (Nat.le_trans S.lo)⟩
theorem gp.alloc (S:gp P hs D ι g w) {cells:Array Value} {T:TypeId} {r:Row} (hh:w'.heap=w.heap.push (.cells cells T (0,0))) (hn:ι id=none) (hw:r.w=true) (h1:r.rows.length*r.sz<=cells.size) (h2:∀cs∈r.rows,cs.length=r.sz) (h3:∀cs∈r.rows,∀a∈cs,a.cell=true)
  (h4:∀i j cs a,r.rows[i]? =some cs->cs[j]? =some a->∃x,cells[i*r.sz+j]? =some x/\cV P w D ι a x):gp P hs D (kF ι id ⟨w.heap.size,r.sz,cells.size,none⟩) (bH g id r) w':=by
 have hb:∀b,b<w.heap.size->w'.heap[b]? =w.heap[b]? :=fun b dV=>by rw[hh,Array.getElem?_push,if_neg (by omega)]
 have hz:w.heap.size<=w'.heap.size:=by rw[hh];simp
 have S':=S.stay (D':=D) (ι':=kF ι id ⟨w.heap.size,r.sz,cells.size,none⟩) hb hz (fun _ h=>h) (fun b hd=>Nat.lt_of_lt_of_le (S.dead b hd) hz) (fun _ h=>.inl h) (fZ hn)
 have hr:∀a v,cV P w D ι a v->cV P w' D (kF ι id ⟨w.heap.size,r.sz,cells.size,none⟩) a v:=fun a v h=>h.frame (fun b hd=>hb b (S.dead b hd)) (fun _ h=>h) (fZ hn)
 have kh:w'.heap[w.heap.size]? =some (.cells cells T (0,0)):=by rw[hh];simp
 have gone:g id=none:=by
  cases hg:g id with
  |none=>rfl
  |some q=>
   obtain⟨B,hB,_⟩:=S.row id q hg
   rw[hn]at hB;cases hB
 have lt:∀{i q B},g i=some q->ι i=some B->B.b<w.heap.size:=fun {i q B} h hB=>by
  obtain⟨B',dJ,R,_⟩:=S.row i q h
  rw[hB]at dJ;injection dJ with dJ;subst dJ
  exact R.lt
 refine⟨S'.lo,S'.dead,fun i q h=>?_,fun i i' q q' B B' h h' Ql hB dJ he=>?_⟩
 ·unfold bH at h
  split at h
  ·rename_i e
   subst e
   injection h with h;subst h
   refine⟨_,ep _ _ _,kT.obj ⟨rfl,⟨cells,T,kh,rfl⟩,h1,h2,h3,fun k j cs a hk hj=>?_⟩ rfl,fun _=>S.lo,fun _ hd=>?_⟩
   ·obtain⟨x,hx,hrx⟩:=h4 k j cs a hk hj
    exact⟨x,by simp[World.cell?,kh,hx],hr _ _ hrx⟩
   ·have:=S.dead _ hd;simp at this
  ·exact S'.row i q h
 ·unfold bH at h h'
  split at h
  ·rename_i e
   split at h'
   ·rename_i e';exact e.trans e'.symm
   ·exfalso
    rename_i e'
    subst e
    rw[ep]at hB;injection hB with hB;subst hB
    rw[fY e']at dJ
    have:=lt h' dJ
    simp at he;omega
  ·rename_i e
   split at h'
   ·exfalso
    rename_i e'
    subst e'
    rw[ep]at dJ;injection dJ with dJ;subst dJ
    rw[fY e]at hB
    have:=lt h hB
    simp at he;omega
   ·exact S'.inj i i' q q' B B' h h' Ql hB dJ he
theorem gp.put (S:gp P hs D ι g w) {r r':Row} {B:r9} {cur cur':Array Value} {T:TypeId} (hid:g id=some r) (hw:r.w=true) (hB:ι id=some B) (hblk:w.heap[B.b]? =some (.cells cur T (0,0))) (fb:cur'.size=cur.size)
  (h0:r'.w=true) (h1:r'.sz=r.sz) (h2:r'.rows.length*r'.sz<=B.C) (h3:∀cs∈r'.rows,cs.length=r'.sz) (h4:∀cs∈r'.rows,∀a∈cs,a.cell=true)
  (h5:∀i j cs a,r'.rows[i]? =some cs->cs[j]? =some a->∃v,cur'[i*r.sz+j]? =some v/\cV P w D ι a v):gp P hs D ι (bH g id r') (w.setRow B.b cur')/\Step hs D ι w D ι (w.setRow B.b cur'):=by
 obtain⟨B0,Af,RO,iv,lY⟩:=S.row id r hid
 rw[hB]at Af;injection Af with Af;subst Af
 have tu:=RO.KF hblk
 have R:=RO.row tu
 have hd:∀b,D b->(w.setRow B.b cur').heap[b]? =w.heap[b]? :=fun b hb=>setRow_other w B.b b cur' (by rintro rfl;exact lY hw hb)
 have hr:∀a v,cV P w D ι a v->cV P (w.setRow B.b cur') D ι a v:=fun a v h=>h.frame hd (fun _ h=>h) (fun _ _ h=>h)
 have hC:cur.size=B.C:=by
  obtain⟨c,T',h1,h2⟩:=R.wL
  rw[hblk]at h1;injection h1 with h1;injection h1 with h1 PA;subst h1;exact h2
 refine⟨⟨by simpa using S.lo,fun b hb=>by simpa using S.dead b hb,fun i q h=>?_,fun i i' q q' C C' h h' Ql hC Cv he=>?_⟩,⟨⟨by simp,by simp,by simp,by simp,fun k hk=>setRow_other w B.b k cur' (by have:=iv hw;omega)⟩,hd,fun _ h=>h,fun _ _ h=>h,fun _ h=>.inl h⟩⟩
 ·unfold bH at h
  split at h
  ·rename_i e
   subst e
   injection h with h;subst h
   refine⟨B,hB,kT.obj ⟨by rw[h1];exact R.sz,⟨cur',T,setRow_heap w B.b cur cur' T _ hblk,by rw[fb];exact hC⟩,h2,h3,h4,fun k j cs a hk hj=>?_⟩ tu,fun _=>iv hw,fun _=>lY hw⟩
   obtain⟨v,hv,kW⟩:=h5 k j cs a hk hj
   exact⟨v,by rw[cell_setRow_same w B.b _ cur cur' T _ hblk,h1];exact hv,hr _ _ kW⟩
  ·rename_i e
   obtain⟨C,hC,RC,k1,k2⟩:=S.row i q h
   refine⟨C,hC,RC.frame (setRow_other w B.b C.b cur' (fun Lu=>e ?_)) hr,k1,k2⟩
   exact(S.inj id i r q B C hid h hw hB hC Lu.symm).symm
 ·unfold bH at h h'
  have get:∀j p,(if j=id then some r' else g j)=some p->∃p0,g j=some p0/\(p.w=true->p0.w=true):=fun j p hp=>by
   split at hp
   ·rename_i e;subst e;injection hp with hp;subst hp;exact⟨r,hid,fun _=>hw⟩
   ·exact⟨p,hp,fun h=>h⟩
  obtain⟨p,hp,OU⟩:=get _ _ h
  obtain⟨p',Nn,_⟩:=get _ _ h'
  exact S.inj i i' p p' C C' hp Nn (OU Ql) hC Cv he
theorem gp.rename (S:gp P hs D ι g w) {i:Id} {r:Row} {B:r9} (hi:g i=some r) (hw:r.w=true) (hB:ι i=some B) (hn:ι id=none):gp P hs D (kF ι id B) (bH (bG g i) id r) w:=by
 have S':=S.stay (w':=w) (D':=D) (ι':=kF ι id B) (fun _ _=>rfl) (Nat.le_refl _) (fun _ h=>h) S.dead (fun _ h=>.inl h) (fZ hn)
 have gF:i≠id:=by rintro rfl;rw[hn]at hB;cases hB
 obtain⟨B1,zt,R,k1,k2⟩:=S'.row i r hi
 rw[fY gF,hB]at zt;injection zt with zt;subst zt
 have get:∀j p,bH (bG g i) id r j=some p->(j=id/\p=r)∨(j≠id/\j≠i/\g j=some p):=fun j p hp=>by
  unfold bH bG at hp
  split at hp
  ·rename_i e;injection hp with hp;exact .inl ⟨e,hp.symm⟩
  ·rename_i e
   split at hp
   ·cases hp
   ·rename_i e';exact .inr ⟨e,e',hp⟩
 refine⟨S.lo,S.dead,fun j p h=>?_,fun j j' p p' C C' h h' OU hC Cv he=>?_⟩
 ·rcases get j p h with⟨rfl,rfl⟩|⟨_,_,hp⟩
  ·exact⟨B,ep _ _ _,R,k1,k2⟩
  ·exact S'.row j p hp
 ·rcases get j p h with⟨rfl,rfl⟩|⟨q1,q2,hp⟩
  ·rcases get j' p' h' with⟨rfl,rfl⟩|⟨q1',q2',Nn⟩
   ·rfl
   ·exfalso
    rw[ep]at hC;injection hC with hC;subst hC
    rw[fY q1']at Cv
    exact q2' (S.inj i j' p p' B C' hi Nn hw hB Cv he).symm
  ·rcases get j' p' h' with⟨rfl,rfl⟩|⟨q1',q2',Nn⟩
   ·exfalso
    rw[ep]at Cv;injection Cv with Cv;subst Cv
    rw[fY q1]at hC
    exact q2 (S.inj j i p p' C B hp hi OU hC hB he)
   ·rw[fY q1]at hC
    rw[fY q1']at Cv
    exact S.inj j j' p p' C C' hp Nn OU hC Cv he
def BL (P:Program) (hs:Nat) (a:Act) (o:Oper) (w:World) (D:Nat->Prop) (ι:Names) (id:Id) (v:AV) (g':Rows):Prop:=
 ∃u w' ι',((execOp a.eval o).run P w=.ok (.value u) w'∨(execOp a.eval o).run P w=.ok .skip w'/\u=undef)/\Step hs D ι w D ι' w'/\gp P hs D ι' g' w'/\cV P w' D ι' v u/\∀i,i≠id->ι' i=ι i
theorem Bb {xs:List AV} {vs:Array Value} (h:eZ P w D ι xs vs) (hf:∀a∈xs,a.cell=true):∀v∈vs.toList,v.oneCell'=true:=by
 intro v hv
 obtain⟨j,hj,rfl⟩:=List.getElem_of_mem hv
 have LF:j<xs.length:=by rw[<-h.1];simpa using hj
 obtain⟨u,hu,hr⟩:=h.2 j _ (List.getElem?_eq_getElem LF)
 have hc:=hr.zO (hf _ (List.getElem_mem LF))
 have:vs.toList[j]=u:=by
  have:vs.toList[j]? =some u:=by simpa using hu
  rw[List.getElem?_eq_getElem hj]at this;injection this
 rw[this]
 cases u<;>simp_all [Value.oneCell']
theorem jy {i j n m:Nat} (h:i<n) (hj:j<m):i*m+j<n*m:=by
 have:(i+1)*m<=n*m:=Nat.mul_le_mul_right _ h
 rw[Nat.add_mul,Nat.one_mul]at this;omega
theorem kT.cur {B:r9} {r:Row} (R:kT P w D ι B r):∃cur T,w.heap[B.b]? =some (.cells cur T (0,0))/\cur.size=B.C/\∀i j cs a,r.rows[i]? =some cs->cs[j]? =some a->∃v,cur[i*r.sz+j]? =some v/\cV P w D ι a v:=by
 obtain⟨cur,T,h1,h2⟩:=R.wL
 refine⟨cur,T,h1,h2,fun i j cs a hi hj=>?_⟩
 obtain⟨v,hv,hr⟩:=R.at_ i j cs a hi hj
 exact⟨v,by simpa[World.cell?,h1]using hv,hr⟩
theorem JR {t:TypeId} {n:Nat} {x y:Operand} {x' y':O} {g':Rows} (S:gp P hs D ι g w) (E:cF P w D ι env a) (ho:o.op=.store t x y) (hn:dW P t=some n) (hx:cO P x=some x') (hy:cO P y=some y')
  (hv:bt g n (cJ env y') (cJ env x')=some g'):BL P hs a o w D ι id .undef g':=by
 have rx:=cZ E hx
 have ry:=cZ E hy
 unfold bt at hv
 split at hv
 ·rename_i i k off hp
  rw[hp]at rx
  simp only[Option.bind_eq_some_iff]at hv
  obtain⟨r,hg,cs,di,hv⟩:=hv
  split at hv
  ·rename_i hc
   obtain⟨c1,c2,c3,c4⟩:=hc
   simp at hv;subst hv
   obtain⟨B,he,hB,hk⟩:=je rx
   obtain⟨B',dJ,R,iv,lY⟩:=S.row i r hg
   rw[hB]at dJ;injection dJ with dJ;subst dJ
   replace R:=R.row hk
   obtain⟨cur,T,hblk,hC,uo⟩:=R.cur
   have hL:=pO ry c3
   have h1:=Bb hL (List.all_eq_true.1 c3)
   have Qu:(a.eval y).cells.size=n:=by rw[hL.1,c2]
   have kJ:=(List.getElem?_eq_some_iff.1 di).1
   have hlen:=R.len cs (List.mem_of_getElem? di)
   have hbound:k*r.sz+r.sz<=r.rows.length*r.sz:=by
    have:(k+1)*r.sz<=r.rows.length*r.sz:=Nat.mul_le_mul_right _ kJ
    rwa [Nat.add_mul,Nat.one_mul]at this
   have hf:=R.fits
   have er:=run_storeCells_at P B.b (k*B.sz+off) T (a.eval y).cells.toList 0 cur w hblk (by rw[R.sz];simp only[Array.length_toList];omega) h1
   simp only[Nat.add_zero,Array.length_toList]at er
   have uv:=S.put (r':={r with rows:=r.rows.set k (bY cs off (cJ env y').cells)}) hg c1 hB hblk (cur':=(cur.toList.take (k*B.sz+off)++(a.eval y).cells.toList++cur.toList.drop (k*B.sz+off+(a.eval y).cells.size)).toArray)
    (by rw[R.sz];simp;omega) c1 rfl (by simpa using R.fits) (fun c SL=>by
     rcases List.mem_or_eq_of_mem_set SL with h|rfl
     ·exact R.len c h
     ·simp[bY];omega) (fun c SL b hb=>by
     rcases List.mem_or_eq_of_mem_set SL with h|rfl
     ·exact R.flat c h b hb
     ·unfold bY at hb
      rcases List.mem_append.1 hb with hb|hb
      ·rcases List.mem_append.1 hb with hb|hb
       ·exact R.flat cs (List.mem_of_getElem? di) b (List.mem_of_mem_take hb)
       ·exact List.all_eq_true.1 c3 b hb
      ·exact R.flat cs (List.mem_of_getElem? di) b (List.mem_of_mem_drop hb)) (fun i2 j c b w7 hj=>by
     rw[R.sz]
     simp only[List.getElem?_toArray]
     by_cases w8:i2=k
     ·subst w8
      rw[List.getElem?_set_self kJ]at w7
      injection w7 with w7;subst w7
      unfold bY at hj
      by_cases hjo:j<off
      ·rw[List.append_assoc,List.getElem?_append_left (by simp;omega),List.getElem?_take,if_pos hjo]at hj
       rw[List.append_assoc,List.getElem?_append_left (by simp;omega),List.getElem?_take,if_pos (by omega)]
       simpa using uo _ _ _ _ di hj
      ·by_cases iH:j<off+n
       ·rw[List.append_assoc,List.getElem?_append_right (by simp;omega),List.getElem?_append_left (by simp;omega)]at hj
        rw[List.append_assoc,List.getElem?_append_right (by simp;omega),List.getElem?_append_left (by simp;omega)]
        simp only[List.length_take]at hj ⊢
        rw[show j-min off cs.length=j-off by omega]at hj
        rw[show i2*r.sz+j-min (i2*r.sz+off) cur.toList.length=j-off by simp;omega]
        simpa using hL.2 _ _ hj
       ·rw[List.getElem?_append_right (by simp;omega)]at hj
        rw[List.getElem?_append_right (by simp;omega)]
        simp only[List.length_append,List.length_take,List.getElem?_drop,Array.length_toList]at hj ⊢
        rw[show off+(cJ env y').cells.length+(j-(min off cs.length+(cJ env y').cells.length))=j by omega]at hj
        rw[show i2*r.sz+off+(a.eval y).cells.size+(i2*r.sz+j-(min (i2*r.sz+off) cur.size+(a.eval y).cells.size))=i2*r.sz+j by omega]
        simpa using uo _ _ _ _ di hj
     ·rw[List.getElem?_set_ne (fun e=>w8 e.symm)]at w7
      have hi2l:=(List.getElem?_eq_some_iff.1 w7).1
      have gC:j<r.sz:=by rw[<-R.len c (List.mem_of_getElem? w7)];exact(List.getElem?_eq_some_iff.1 hj).1
      have:=uo _ _ _ _ w7 hj
      rcases Nat.lt_or_gt_of_ne w8 with dV|J5
      ·have h2:i2*r.sz+j<k*r.sz:=jy dV gC
       rw[List.append_assoc,List.getElem?_append_left (by simp;omega),List.getElem?_take,if_pos (by omega)]
       simpa using this
      ·have h2:k*r.sz+r.sz<=i2*r.sz:=by
        have:(k+1)*r.sz<=i2*r.sz:=Nat.mul_le_mul_right _ J5
        rwa [Nat.add_mul,Nat.one_mul]at this
       rw[List.getElem?_append_right (by simp;omega)]
       simp only[List.length_append,List.length_take,List.getElem?_drop,Array.length_toList]
       rw[show k*r.sz+off+(a.eval y).cells.size+(i2*r.sz+j-(min (k*r.sz+off) cur.size+(a.eval y).cells.size))=i2*r.sz+j by omega]
       simpa using this)
   refine⟨undef,_,ι,.inr ⟨?_,rfl⟩,uv.2,uv.1,cV.undef,fun _ _=>rfl⟩
   simp only[execOp,ho,he,Instr.storeAt,Instr.sureAddr,storeVar,Sem.run_bind,Sem.run_pure,Result.andThen_ok,run_sizeOf hn,Qu,ne_eq,not_true_eq_false,if_false,er]
  ·simp at hv
 ·simp at hv
end
end Go.Proofs.YtgoljkjaameagaaGreat.V

namespace Go.Proofs.YtgoljkjaameagaaGreat.V
open Go.RowKit
variable {P:Program} {w w':World} {D D':Nat->Prop} {ι ι':Names}
section
variable {g:Rows} {hs:Nat} {env:Env} {a:Act} {o:Oper} {id:Id} {v:AV}
theorem qE (S:gp P hs D ι g w) {y:AV} {u:Value} {ys:List (List AV)} {sz:Nat} (hr:cV P w D ι y u) (hy:bd g y=some ys) (hl:∀c∈ys,c.length=sz) (hf:∀c∈ys,∀b∈c,b.cell=true):
  ∃A c,u=.slice A ys.length c/\(ys=[]∨∃b o,∃news:List Value,A=some ⟨b,o,none⟩/\news.length=ys.length*sz/\(∀j v,news[j]? =some v->w.cell? ⟨b,o+j,none⟩=some v)/\eZ P w D ι ys.flatten news.toArray/\∀v∈news,v.oneCell'=true):=by
 have fin:∀b o,ys≠[]->(∀i j cs x,ys[i]? =some cs->cs[j]? =some x->∃v,w.cell? ⟨b,o+(i*sz+j),none⟩=some v/\cV P w D ι x v)->
   ∃news:List Value,news.length=ys.length*sz/\(∀j v,news[j]? =some v->w.cell? ⟨b,o+j,none⟩=some v)/\eZ P w D ι ys.flatten news.toArray/\∀v∈news,v.oneCell'=true:=by
  intro b o _ h
  have hlen:=Hn hl
  have at_:∀k,k<ys.length*sz->∃x,ys.flatten[k]? =some x/\∃v,w.cell? ⟨b,o+k,none⟩=some v/\cV P w D ι x v:=by
   intro k hk
   have jZ:0<sz:=by
    rcases Nat.eq_zero_or_pos sz with h0|h0
    ·subst h0;simp at hk
    ·exact h0
   have hi:k / sz<ys.length:=Nat.div_lt_of_lt_mul (by rw[Nat.mul_comm];exact hk)
   have hj:k % sz<sz:=Nat.mod_lt _ jZ
   have di:=List.getElem?_eq_getElem hi
   have gC:k % sz<ys[k / sz].length:=by rw[hl _ (List.getElem_mem hi)];exact hj
   have hx:=List.getElem?_eq_getElem gC
   have e:k / sz*sz+k % sz=k:=by rw[Nat.mul_comm];exact Nat.div_add_mod _ _
   refine⟨_,by rw[<-flat_get hl di hx,e],?_⟩
   obtain⟨v,hv,kW⟩:=h _ _ _ _ di hx
   rw[e]at hv
   exact⟨v,hv,kW⟩
  let news:=(List.range (ys.length*sz)).map fun k=>(w.cell? ⟨b,o+k,none⟩).getD undef
  have hn:∀k,k<ys.length*sz->∀v,w.cell? ⟨b,o+k,none⟩=some v->news[k]? =some v:=fun k hk v hv=>by
   simp only[news,List.getElem?_map,List.getElem?_range hk,Option.map_some,hv,Option.getD_some]
  have hR:eZ P w D ι ys.flatten news.toArray:=⟨by simp[news,hlen],fun j x hx=>by
   have gC:=(List.getElem?_eq_some_iff.1 hx).1
   rw[hlen]at gC
   obtain⟨x',vH,v,hv,kW⟩:=at_ j gC
   rw[hx]at vH;injection vH with vH;subst vH
   exact⟨v,by simpa using hn j gC v hv,kW⟩⟩
  refine⟨news,by simp[news],fun j v hj=>?_,hR,?_⟩
  ·have gC:j<ys.length*sz:=by have:=(List.getElem?_eq_some_iff.1 hj).1;simpa[news]using this
   obtain⟨x,_,v',nf,_⟩:=at_ j gC
   rw[hn j gC v' nf]at hj
   injection hj with hj
   rw[<-hj];exact nf
  ·have:=Bb hR (fun x hx=>by
    obtain⟨c,hc,TF⟩:=List.mem_flatten.1 hx
    exact hf c hc x TF)
   simpa using this
 unfold bd at hy
 split at hy
 ·simp at hy;subst hy
  exact⟨none,0,jd hr,.inl rfl⟩
 ·rename_i rows
  simp at hy;subst hy
  obtain⟨A,c,he,_,_,h3⟩:=uU hr
  refine⟨A,c,he,?_⟩
  rcases h3 with h3|⟨b,oo,sz',vs,rfl,hD,Jl,_,hc,hi⟩
  ·exact .inl h3
  ·by_cases h0:rows=[]
   ·exact .inl h0
   ·have Aq:sz'=sz:=by
     cases rows with
     |nil=>exact(h0 rfl).elim
     |cons c r=>rw[<-Jl c (by simp),hl c (by simp)]
    subst Aq
    obtain⟨news,q1,q2,q3,q4⟩:=fin b oo h0 (fun i j cs x di hx=>⟨_,hc i j (List.getElem?_eq_some_iff.1 di).1 (by rw[<-Jl cs (List.mem_of_getElem? di)];exact(List.getElem?_eq_some_iff.1 hx).1),.eH _ _ (hi i j cs x di hx)⟩)
    exact .inr ⟨b,oo,news,rfl,q1,q2,q3,q4⟩
 ·rename_i i off len
  simp only[Option.bind_eq_some_iff]at hy
  obtain⟨r,hg,hy⟩:=hy
  split at hy
  ·rename_i hle
   simp at hy;subst hy
   obtain⟨oo,cap,B,he,hB,h1,h2,h3,h4,hk⟩:=iC hr
   obtain⟨B',dJ,R,_,_⟩:=S.row i r hg
   rw[hB]at dJ;injection dJ with dJ;subst dJ
   replace R:=R.row hk
   have hlen:((r.rows.drop off).take len).length=len:=by simp;omega
   refine⟨some ⟨B.b,oo,none⟩,cap,by rw[hlen];exact he,?_⟩
   by_cases h0:(r.rows.drop off).take len=[]
   ·exact .inl h0
   ·have Aq:r.sz=sz:=by
     cases hq:(r.rows.drop off).take len with
     |nil=>exact(h0 hq).elim
     |cons c q=>
      have hm:c∈(r.rows.drop off).take len:=by rw[hq];simp
      rw[<-hl c hm,R.len c (List.mem_of_mem_drop (List.mem_of_mem_take hm))]
    have hlp:0<len:=by rw[<-hlen];exact List.length_pos_iff.2 h0
    have Bz:oo=off*B.sz:=by rcases h2 with h2|h2<;>omega
    obtain⟨news,q1,q2,q3,q4⟩:=fin B.b oo h0 (fun i2 j cs x di hx=>by
     rw[List.getElem?_take]at di
     split at di
     ·rw[List.getElem?_drop]at di
      obtain⟨v,hv,kW⟩:=R.at_ _ _ _ _ di hx
      refine⟨v,?_,kW⟩
      rw[Bz,R.sz,<-Aq]
      rw[Nat.add_mul]at hv
      rw[<-Nat.add_assoc]
      exact hv
     ·simp at di)
    exact .inr ⟨B.b,oo,news,rfl,q1,q2,q3,q4⟩
  ·simp at hy
 ·simp at hy
theorem od {t ty e:TypeId} {i:TypeInfo} (ht:P.underlying t=some (.slice e)) (hi:P.info? e=some i) (A:Option Addr) (n c:Nat) (hn:n<=c) (B:Option Addr) (d:Nat):
  (Builtin.append_ #[t,t] ty #[.slice A n c,.slice B 0 d]).run P w=.ok (.slice A n c) w:=by
 have hf:(Builtin.firstCells i.size 0 (.slice B 0 d)).run P w=.ok #[] w:=by
  cases B<;>simp[Builtin.firstCells,loadCells,loadCellsFrom]
 cases A with
 |none=>simp[Builtin.append_,run_underlying ht,sizeOf,typeInfo,hi,Builtin.lenOf,hn,hf]
 |some A=>simp[Builtin.append_,run_underlying ht,sizeOf,typeInfo,hi,Builtin.lenOf,hn,hf,storeCells]
theorem wq {t ty e T:TypeId} {i:TypeInfo} (ht:P.underlying t=some (.slice e)) (hi:P.info? e=some i) (b qH Dg:Nat) (cur:Array Value) (hg:w.heap[b]? =some (.cells cur T (0,0)))
  (x:Addr) (m c:Nat) (news:List Value) (hl:news.length=m*i.size) (Qh:∀j u,news[j]? =some u->w.cell? (x.add j)=some u) (h1:∀u∈news,u.oneCell'=true)
  (fN:qH+m<=Dg) (Aj:qH*i.size+news.length<=cur.size):
  (Builtin.append_ #[t,t] ty #[.slice (some ⟨b,0,none⟩) qH Dg,.slice (some x) m c]).run P w=
   .ok (.slice (some ⟨b,0,none⟩) (qH+m) Dg) (w.setRow b (cur.toList.take (qH*i.size)++news++cur.toList.drop (qH*i.size+news.length)).toArray):=by
 have hf:=run_firstCells_some (P:=P) w i.size m x m c news hl Qh
 have er:=run_storeCells_at P b (qH*i.size) T news 0 cur w hg (by simpa using Aj) h1
 simp only[Nat.add_zero]at er
 simp[Builtin.append_,run_underlying ht,sizeOf,typeInfo,hi,Builtin.lenOf,fN,hf,jT,er]
theorem Ae (w:World) (FU A6:Nat) (e:TypeId) (h:FU<=cY):FU<=grownCap w FU A6 e/\grownCap w FU A6 e<=maxLen:=by
 unfold cY at h
 simp only[grownCap,Question.cut,maxLen]
 have:=Nat.mod_lt (w.tape w.drawn (.appendCap FU A6 e)) (show 0<2 ^ 63-FU by omega)
 omega
theorem fS {x y:Operand} {t:TypeId} {u:Value} (ho:o.op=.call {callee:=.builtin .append,args:= #[x,y],argTypes:= #[t,t]}) (h:(Builtin.append_ #[t,t] o.type #[a.eval x,a.eval y]).run P w=.ok u w'):(execOp a.eval o).run P w=.ok (.value u) w':=by
 simp only[execOp,ho,resolve,Sem.run_bind,Sem.run_pure,Result.andThen_ok,invoke,builtin]
 simp only[List.map_toArray,List.map_cons,List.map_nil]
 rw[h];rfl
theorem Bh {T:TypeId} (S:gp P hs D ι g w) (cells:Array Value) (hn:ι id=none) (B:r9):Step hs D ι w D (kF ι id B) (w.drew.alloc (.cells cells T)):=
 Step.stay S (fun k hk=>by show(w.heap.push _)[k]? = _;rw[Array.getElem?_push,if_neg (by omega)]) (by show _<=(w.heap.push _).size;simp) rfl rfl rfl (fun _ h=>h) (fun _ h=>.inl h) (fZ hn)
theorem Hd {x y:Operand} {x' y':O} {t e:TypeId} {m:Nat} {z:List K} {i:TypeInfo} {ys:List (List AV)} {g':Rows} (S:gp P hs D ι g w) (E:cF P w D ι env a) (hn:ι id=none) (ho:o.op=.call {callee:=.builtin .append,args:= #[x,y],argTypes:= #[t,t]})
  (ht:P.underlying t=some (.slice e)) (fb:dW P e=some (m+1)) (hz:jq P e=some z) (hi:P.info? e=some i) (hby:i.bytes<=32768) (hx:cO P x=some x') (hy:cO P y=some y') (Ei:bd g (cJ env y')=some ys)
  (hv:aH g id (m+1) (cJ env x') ys=some (v,g')):BL P hs a o w D ι id v g':=by
 have rx:=cZ E hx
 have ry:=cZ E hy
 obtain⟨it,zv,pT,uB,O2,hm,Ej⟩:=jE hz
 rw[hi]at pT;injection pT with pT;subst pT
 have jk:i.size=m+1:=by simpa[dW,hi]using fb
 have fits:∀n,n<=cY->n*i.bytes<=140737488355328:=fun n h=>by
  unfold cY at h
  have:=Nat.mul_le_mul h hby
  omega
 have e63:∀n,n<=cY->(n:Int)<=9223372036854775807:=fun n h=>by unfold cY at h;omega
 have same:∀(w1:World) (cells:Array Value),w1=w.drew.alloc (.cells cells e)->w1.heap=w.heap.push (.cells cells e (0,0)):=fun w1 cells h=>by subst h;rfl
 have Pa:∀l:List (List AV),(l.all fun c=>c.length==m+1&&c.all AV.cell)=true->(∀c∈l,c.length=m+1)/\∀c∈l,∀b∈c,b.cell=true:=fun l h=>by
  rw[List.all_eq_true]at h
  refine⟨fun c hc=>?_,fun c hc b hb=>?_⟩
  ·have:=h c hc;simp at this;exact this.1
  ·have:=h c hc;simp at this;exact this.2 b hb
 unfold aH at hv
 split at hv
 ·rename_i hb
  rw[hb]at rx
  have ex:=jd rx
  split at hv
  ·simp at hv
   obtain⟨rfl,rfl⟩:=hv
   obtain⟨A,c,ey,_⟩:=qE (sz:=m+1) S ry Ei (fun c h=>by cases h) (fun c h=>by cases h)
   refine⟨_,w,ι,.inl (fS ho (by rw[ex,ey];exact od ht hi none 0 0 (Nat.le_refl _) A c)),Step.refl _ _ _ _,S,.eH _ _ .bP,fun _ _=>rfl⟩
  ·rename_i y0 yr
   split at hv
   ·rename_i hc
    simp only[Option.some.injEq,Prod.mk.injEq]at hv
    obtain⟨rfl,rfl⟩:=hv
    obtain⟨hl,hf⟩:=Pa _ hc.2
    obtain⟨A,c,ey,h2⟩:=qE (sz:=m+1) S ry Ei hl hf
    rcases h2 with h2|⟨b,oo,news,rfl,q1,q2,q3,q4⟩
    ·cases h2
    have gW:=run_append_nil (P:=P) w t o.type e i zv ht hi uB ⟨b,oo,none⟩ (y0::yr).length c news (by rw[jk];exact q1) (fun j v hj=>by rw[jT];exact q2 j v hj) (by simp) (e63 _ hc.1) (by have:=fits _ hc.1;omega)
    obtain⟨g1,g2⟩:=Ae w (y0::yr).length 0 e hc.1
    have di:(news.toArray++Builtin.zeroCells zv.cells (grownCap w (y0::yr).length 0 e-(y0::yr).length)).size=grownCap w (y0::yr).length 0 e*(m+1):=by
     rw[Array.size_append,size_zeroCells,O2,jk]
     simp only[List.size_toArray,q1]
     rw[<-Nat.add_mul];congr 1;omega
    have S1:=S.alloc (w':=w.drew.alloc (.cells (news.toArray++Builtin.zeroCells zv.cells (grownCap w (y0::yr).length 0 e-(y0::yr).length)) e)) (r:=⟨true,m+1,y0::yr⟩) rfl hn rfl (by rw[di];exact Nat.mul_le_mul_right _ g1) hl hf
     (fun k j cs b2 hk hj=>by
      obtain⟨u,hu,v8⟩:=q3.2 _ _ (flat_get hl hk hj)
      refine⟨u,?_,v8⟩
      have dV:=(Array.getElem?_eq_some_iff.1 hu).1
      dsimp only
      rw[Array.getElem?_append_left dV];exact hu)
    have er:=Bh (T:=e) S (news.toArray++Builtin.zeroCells zv.cells (grownCap w (y0::yr).length 0 e-(y0::yr).length)) hn ⟨w.heap.size,m+1,(news.toArray++Builtin.zeroCells zv.cells (grownCap w (y0::yr).length 0 e-(y0::yr).length)).size,none⟩
    refine⟨_,_,_,.inl (fS ho (by rw[ex,ey];exact gW)),er,S1,?_,fun _ h=>fY h⟩
    refine .own _ _ _ _ _ _ (ep _ _ _) rfl g1 (.inr (by simp)) ?_ g2
    dsimp only;rw[di];simp
   ·simp at hv
 ·rename_i i0 len hb
  rw[hb]at rx
  simp only[Option.bind_eq_some_iff]at hv
  obtain⟨r,hg,hv⟩:=hv
  split at hv
  ·rename_i hc
   obtain⟨c1,c2,c3,c4,c5⟩:=hc
   simp only[Option.some.injEq,Prod.mk.injEq]at hv
   obtain⟨rfl,rfl⟩:=hv
   obtain⟨hl,hf⟩:=Pa _ c5
   obtain⟨A,c,ey,h2⟩:=qE (sz:=m+1) S ry Ei hl hf
   obtain⟨oo,cap,B,ex,hB,h1,Bz,h3,h4,hk⟩:=iC rx
   obtain⟨B',dJ,R,iv,lY⟩:=S.row _ _ hg
   rw[hB]at dJ;injection dJ with dJ;subst dJ
   replace R:=R.row hk
   have D5:B.sz=m+1:=R.sz.trans c2
   have yL:∀cs∈r.rows++ys,cs.length=m+1:=fun cs di=>by
    rcases List.mem_append.1 di with h|h
    ·rw[<-c2];exact R.len cs h
    ·exact hl cs h
   have Lq:∀cs∈r.rows++ys,∀b∈cs,b.cell=true:=fun cs di=>by
    rcases List.mem_append.1 di with h|h
    ·exact R.flat cs h
    ·exact hf cs h
   rcases h2 with rfl|⟨yb,yo,news,rfl,q1,q2,q3,q4⟩
   ·have Fw:=S.rename hg c1 hB hn
    refine⟨_,w,kF ι id B,.inl (fS ho (by rw[ex,ey];exact od ht hi _ _ _ h1 A c)),⟨Below.refl _ _,fun _ _=>rfl,fun _ h=>h,fZ hn,fun _ h=>.inl h⟩,?_,?_,fun _ h=>fY h⟩
    ·have:(⟨true,m+1,r.rows++[]⟩:Row)=r:=by cases r;simp_all
     rw[this];exact Fw
    ·simp only[List.length_nil,Nat.add_zero]
     exact .own _ _ _ _ _ B (ep _ _ _) hk h1 Bz h3 h4
   ·obtain⟨cur,T,hblk,hC,uo⟩:=R.cur
    by_cases fN:len+ys.length<=cap
    ·have RL:ys≠[]->oo=0:=fun h=>by
      rcases Bz with Bz|Bz
      ·have:=List.length_pos_iff.2 h;omega
      ·simpa using Bz
     by_cases hy0:ys=[]
     ·subst hy0
      have Fw:=S.rename hg c1 hB hn
      refine⟨_,w,kF ι id B,.inl (fS ho (by rw[ex,ey];exact od ht hi _ _ _ h1 _ c)),⟨Below.refl _ _,fun _ _=>rfl,fun _ h=>h,fZ hn,fun _ h=>.inl h⟩,?_,?_,fun _ h=>fY h⟩
      ·have:(⟨true,m+1,r.rows++[]⟩:Row)=r:=by cases r;simp_all
       rw[this];exact Fw
      ·simp only[List.length_nil,Nat.add_zero]
       exact .own _ _ _ _ _ B (ep _ _ _) hk h1 Bz h3 h4
     have ho0:=RL hy0
     subst ho0
     have Aj:len*i.size+news.length<=cur.size:=by
      rw[jk,q1,hC,<-Nat.add_mul]
      refine Nat.le_trans ?_ h3
      rw[D5,Nat.zero_add]
      exact Nat.mul_le_mul_right _ fN
     have gW:=wq (ty:=o.type) ht hi B.b len cap cur hblk ⟨yb,yo,none⟩ ys.length c news (by rw[jk];exact q1) (fun j v hj=>by rw[jT];exact q2 j v hj) q4 fN Aj
     have lI:cur.toList.length=cur.size:=Array.length_toList
     simp only[jk]at gW Aj
     obtain⟨P1,P2⟩:=S.put (r':=⟨true,m+1,r.rows++ys⟩) hg c1 hB hblk (cur':=(cur.toList.take (len*(m+1))++news++cur.toList.drop (len*(m+1)+news.length)).toArray) (by simp only[List.size_toArray,List.length_append,List.length_take,List.length_drop,lI];omega) rfl c2.symm
      (by dsimp only;rw[List.length_append,<-c3,<-D5];refine Nat.le_trans (Nat.mul_le_mul_right _ fN) (Nat.le_trans (by simp) h3)) yL Lq (fun k j cs b2 hk hj=>by
       simp only[List.getElem?_toArray]
       have gC:j<m+1:=by rw[<-yL cs (List.mem_of_getElem? hk)];exact(List.getElem?_eq_some_iff.1 hj).1
       rw[c2]
       by_cases kJ:k<r.rows.length
       ·rw[List.getElem?_append_left kJ]at hk
        have h2:k*(m+1)+j<len*(m+1):=jy (by omega) gC
        rw[List.append_assoc,List.getElem?_append_left (by simp only[List.length_take,lI];omega),List.getElem?_take,if_pos h2]
        have:=uo k j cs b2 hk hj
        rw[c2]at this;simpa using this
       ·rw[List.getElem?_append_right (by omega)]at hk
        have sZ:=(List.getElem?_eq_some_iff.1 hk).1
        have oA:len*(m+1)<=k*(m+1):=Nat.mul_le_mul_right _ (by omega)
        have nR:k*(m+1)+j-len*(m+1)=(k-r.rows.length)*(m+1)+j:=by
         rw[<-c3,Nat.sub_mul];omega
        obtain⟨u,hu,v8⟩:=q3.2 _ _ (flat_get hl hk hj)
        refine⟨u,?_,v8⟩
        have Eg:news[(k-r.rows.length)*(m+1)+j]? =some u:=by simpa using hu
        have dV:=(List.getElem?_eq_some_iff.1 Eg).1
        rw[List.append_assoc,List.getElem?_append_right (by simp only[List.length_take,lI];omega),List.getElem?_append_left (by simp only[List.length_take,lI];omega)]
        rw[<-Eg]
        congr 1
        simp only[List.length_take,lI]
        omega)
     have eo:bH (bG (bH g i0 ⟨true,m+1,r.rows++ys⟩) i0) id ⟨true,m+1,r.rows++ys⟩=bH (bG g i0) id ⟨true,m+1,r.rows++ys⟩:=by
      funext q;simp only[bH,bG]
      by_cases h:q=id<;>by_cases h':q=i0<;>simp[h,h']
     have Fw:=P1.rename (i:=i0) (id:=id) (r:=⟨true,m+1,r.rows++ys⟩) (by simp[bH]) rfl hB hn
     rw[eo]at Fw
     refine⟨_,_,_,.inl (fS ho (by rw[ex,ey];exact gW)),P2.trans ⟨Below.refl _ _,fun _ _=>rfl,fun _ h=>h,fZ hn,fun _ h=>.inl h⟩,Fw,?_,fun _ h=>fY h⟩
     exact .own _ _ _ _ _ B (ep _ _ _) hk fN (.inr (by simp)) h3 h4
    ·
     have holds:∃s7:List Value,s7.length=len*(m+1)/\(∀j v,s7[j]? =some v->w.cell? ⟨B.b,oo+j,none⟩=some v)/\eZ P w D ι r.rows.flatten s7.toArray:=by
      obtain⟨A2,c2',e2,h2⟩:=qE (sz:=m+1) (u:=.slice (some ⟨B.b,oo,none⟩) len cap) S (.own i0 0 len oo cap B hB hk h1 Bz h3 h4) (ys:=r.rows) (by simp[bd,hg,c3]) (fun cs h=>by rw[<-c2];exact R.len cs h) R.flat
      rcases h2 with h2|⟨b2,o2,s7,rfl,p1,p2,p3,_⟩
      ·refine⟨[],by simp[c3,h2],fun j v h=>by simp at h,by rw[h2];exact⟨rfl,fun j a h=>by simp at h⟩⟩
      ·injection e2 with e2 _ _
       injection e2 with e2
       injection e2 with e21 E6 _
       subst e21;subst E6
       exact⟨s7,by rw[p1,c3],p2,p3⟩
     obtain⟨s7,p1,p2,p3⟩:=holds
     have gW:=run_append_grow (P:=P) w t o.type e i zv ht hi uB ⟨B.b,oo,none⟩ len cap s7 (by rw[jk];exact p1) (fun j v hj=>by rw[jT];exact p2 j v hj) ⟨yb,yo,none⟩ ys.length c news (by rw[jk];exact q1) (fun j v hj=>by rw[jT];exact q2 j v hj) (by omega) (e63 _ c4) (growslice_fits (by omega) (fits _ c4))
     obtain⟨g1,g2⟩:=Ae w (len+ys.length) cap e c4
     have di:(s7.toArray++news.toArray++Builtin.zeroCells zv.cells (grownCap w (len+ys.length) cap e-(len+ys.length))).size=grownCap w (len+ys.length) cap e*(m+1):=by
      rw[Array.size_append,Array.size_append,size_zeroCells,O2,jk]
      simp only[List.size_toArray,q1,p1]
      rw[<-Nat.add_mul,<-Nat.add_mul];congr 1;omega
     have S1:=(S.kill i0).alloc (id:=id) (w':=w.drew.alloc (.cells (s7.toArray++news.toArray++Builtin.zeroCells zv.cells (grownCap w (len+ys.length) cap e-(len+ys.length))) e)) (r:=⟨true,m+1,r.rows++ys⟩) rfl hn rfl (by dsimp only;rw[di,List.length_append,<-c3];exact Nat.mul_le_mul_right _ g1) yL Lq
      (fun k j cs b2 hk hj=>by
       have J2:=flat_get yL hk hj
       rw[List.flatten_append]at J2
       have hol:s7.length=r.rows.flatten.length:=by have:=p3.1;simpa using this
       dsimp only
       by_cases dV:k*(m+1)+j<r.rows.flatten.length
       ·rw[List.getElem?_append_left dV]at J2
        obtain⟨u,hu,v8⟩:=p3.2 _ _ J2
        refine⟨u,?_,v8⟩
        rw[Array.getElem?_append_left (by simp;omega),Array.getElem?_append_left (by simp;omega)];exact hu
       ·rw[List.getElem?_append_right (by omega)]at J2
        obtain⟨u,hu,v8⟩:=q3.2 _ _ J2
        refine⟨u,?_,v8⟩
        have Am:=(Array.getElem?_eq_some_iff.1 hu).1
        simp only[List.size_toArray]at Am
        rw[Array.getElem?_append_left (by simp;omega),Array.getElem?_append_right (by simp;omega)]
        simp only[List.size_toArray,hol];exact hu)
     have er:=Bh (T:=e) S (s7.toArray++news.toArray++Builtin.zeroCells zv.cells (grownCap w (len+ys.length) cap e-(len+ys.length))) hn ⟨w.heap.size,m+1,(s7.toArray++news.toArray++Builtin.zeroCells zv.cells (grownCap w (len+ys.length) cap e-(len+ys.length))).size,none⟩
     refine⟨_,_,_,.inl (fS ho (by rw[ex,ey];exact gW)),er,S1,?_,fun _ h=>fY h⟩
     refine .own _ _ _ _ _ _ (ep _ _ _) rfl g1 (.inr (by simp)) ?_ g2
     dsimp only;rw[di];simp
  ·simp at hv
 ·simp at hv
theorem kB {x:Operand} {t:TypeId} {u:Value} (ho:o.op=.call {callee:=.builtin .clear,args:= #[x],argTypes:= #[t]}) (h:(Builtin.clear_ #[t] o.type #[a.eval x]).run P w=.ok u w'):(execOp a.eval o).run P w=.ok (.value u) w':=by
 simp only[execOp,ho,resolve,Sem.run_bind,Sem.run_pure,Result.andThen_ok,invoke,builtin]
 simp only[List.map_toArray,List.map_cons,List.map_nil]
 rw[h];rfl
theorem JQ {x:Operand} {x':O} {t e:TypeId} {m:Nat} {z:List K} {g':Rows} (S:gp P hs D ι g w) (E:cF P w D ι env a) (ho:o.op=.call {callee:=.builtin .clear,args:= #[x],argTypes:= #[t]})
  (ht:P.underlying t=some (.slice e)) (fb:dW P e=some (m+1)) (hz:jq P e=some z) (hx:cO P x=some x') (hv:bo g z (cJ env x')=some g'):BL P hs a o w D ι id .undef g':=by
 have rx:=cZ E hx
 obtain⟨it,zv,hi,uB,O2,hm,Ej⟩:=jE hz
 have jk:it.size=m+1:=by simpa[dW,hi]using fb
 unfold bo at hv
 split at hv
 ·rename_i hb
  rw[hb]at rx
  simp at hv;subst hv
  refine⟨undef,w,ι,.inl (kB ho (by rw[jd rx];simp only[Builtin.clear_,Sem.run_bind];simp[run_underlying ht,undef])),Step.refl _ _ _ _,S,cV.undef,fun _ _=>rfl⟩
 ·rename_i i off len hb
  rw[hb]at rx
  simp only[Option.bind_eq_some_iff]at hv
  obtain⟨r,hg,hv⟩:=hv
  split at hv
  ·rename_i hc
   obtain⟨c1,c2,c3⟩:=hc
   simp only[Option.some.injEq]at hv;subst hv
   obtain⟨oo,cap,B,ex,hB,h1,h2,h3,h4,hk⟩:=iC rx
   obtain⟨B',dJ,R,iv,lY⟩:=S.row _ _ hg
   rw[hB]at dJ;injection dJ with dJ;subst dJ
   replace R:=R.row hk
   obtain⟨cur,T,hblk,hC,uo⟩:=R.cur
   by_cases h0:len=0
   ·subst h0
    have e1:({r with rows:=r.rows.take off++List.replicate 0 (z.map K.av)++r.rows.drop (off+0)}:Row)=r:=by cases r;simp
    rw[e1]
    have e2:bH g i r=g:=by
     funext q;unfold bH;split
     ·rename_i h;rw[h,hg]
     ·rfl
    rw[e2]
    refine⟨undef,w,ι,.inl (kB ho (by rw[ex];simp only[Builtin.clear_,Sem.run_bind];simp[run_underlying ht,undef])),Step.refl _ _ _ _,S,cV.undef,fun _ _=>rfl⟩
   ·have BD:oo=off*B.sz:=by rcases h2 with h2|h2<;>omega
    have D5:B.sz=m+1:=by rw[R.sz,c2,Ej,jk]
    have xd:r.sz=m+1:=by rw[<-R.sz,D5]
    have Qz:zv.cells.size=m+1:=by rw[O2,jk]
    have xg:(Builtin.zeroCells zv.cells len).toList.length=len*(m+1):=by rw[Array.length_toList,size_zeroCells,Qz]
    have Qy:∀k,k<len*(m+1)->∃c,z[k % z.length]? =some c/\(Builtin.zeroCells zv.cells len).toList[k]? =some c.val:=fun k hk=>by
     obtain⟨c,o6,Fi⟩:=ot (n:=len*zv.cells.size) hm (by rw[Ej,jk];omega) k (by rw[Qz];exact hk)
     exact⟨c,o6,by rw[Array.getElem?_toList];exact Fi⟩
    have hbound:(off+len)*(m+1)<=r.rows.length*(m+1):=Nat.mul_le_mul_right _ c3
    have Ak:=R.fits
    rw[xd]at Ak
    have SS:(off+len)*(m+1)=off*(m+1)+len*(m+1):=Nat.add_mul _ _ _
    have er:=run_storeCells_at P B.b oo T (Builtin.zeroCells zv.cells len).toList 0 cur w hblk (by rw[xg,hC,BD,D5];omega) (by
     intro v hv
     obtain⟨k,hk,rfl⟩:=List.getElem_of_mem hv
     obtain⟨c,_,Fi⟩:=Qy k (by rw[<-xg];exact hk)
     rw[List.getElem?_eq_getElem hk]at Fi
     injection Fi with Fi
     rw[Fi];cases c<;>rfl)
    simp only[Nat.add_zero]at er
    have lI:cur.toList.length=cur.size:=Array.length_toList
    obtain⟨P1,P2⟩:=S.put (r':={r with rows:=r.rows.take off++List.replicate len (z.map K.av)++r.rows.drop (off+len)}) hg c1 hB hblk (cur':=(cur.toList.take oo++(Builtin.zeroCells zv.cells len).toList++cur.toList.drop (oo+(Builtin.zeroCells zv.cells len).toList.length)).toArray)
     (by simp only[List.size_toArray,List.length_append,List.length_take,List.length_drop,lI,xg];rw[BD,D5];omega) c1 rfl (by
      have:(r.rows.take off++List.replicate len (z.map K.av)++r.rows.drop (off+len)).length=r.rows.length:=by simp;omega
      dsimp only;rw[this];exact R.fits) (fun cs di=>by
      rcases List.mem_append.1 di with h|h
      ·rcases List.mem_append.1 h with h|h
       ·exact R.len cs (List.mem_of_mem_take h)
       ·rw[List.eq_of_mem_replicate h];simp[c2]
      ·exact R.len cs (List.mem_of_mem_drop h)) (fun cs di b hb=>by
      rcases List.mem_append.1 di with h|h
      ·rcases List.mem_append.1 h with h|h
       ·exact R.flat cs (List.mem_of_mem_take h) b hb
       ·rw[List.eq_of_mem_replicate h]at hb
        obtain⟨c,_,rfl⟩:=List.mem_map.1 hb;exact c.l6
      ·exact R.flat cs (List.mem_of_mem_drop h) b hb) (fun k j cs b hk hj=>by
      simp only[List.getElem?_toArray]
      rw[xd]
      rw[BD,D5,xg]
      by_cases tx:k<off
      ·rw[List.append_assoc,List.getElem?_append_left (by simp;omega),List.getElem?_take,if_pos tx]at hk
       have gC:j<m+1:=by rw[<-xd,<-R.len cs (List.mem_of_getElem? hk)];exact(List.getElem?_eq_some_iff.1 hj).1
       have h2:=jy tx gC
       rw[List.append_assoc,List.getElem?_append_left (by simp only[List.length_take,lI];omega),List.getElem?_take,if_pos h2]
       have:=uo k j cs b hk hj
       rw[xd]at this;simpa using this
      ·by_cases sZ:k<off+len
       ·rw[List.append_assoc,List.getElem?_append_right (by simp;omega),List.getElem?_append_left (by simp;omega)]at hk
        have gH:=List.eq_of_mem_replicate (List.mem_of_getElem? hk)
        subst gH
        simp only[List.getElem?_map,Option.map_eq_some_iff]at hj
        obtain⟨q,hq,rfl⟩:=hj
        have gC:=(List.getElem?_eq_some_iff.1 hq).1
        rw[Ej,jk]at gC
        have oA:off*(m+1)<=k*(m+1):=Nat.mul_le_mul_right _ (by omega)
        have nR:k*(m+1)+j-off*(m+1)=(k-off)*(m+1)+j:=by rw[Nat.sub_mul];omega
        have Am:(k-off)*(m+1)+j<len*(m+1):=jy (by omega) gC
        rw[List.append_assoc,List.getElem?_append_right (by simp only[List.length_take,lI];omega),List.getElem?_append_left (by simp only[List.length_take,lI,xg];omega)]
        obtain⟨c,o6,Fi⟩:=Qy _ Am
        rw[Ej,jk,Nat.mul_comm (k-off),Nat.mul_add_mod,Nat.mod_eq_of_lt gC,hq]at o6
        injection o6 with o6;subst o6
        refine⟨q.val,?_,uS q⟩
        rw[<-Fi]
        congr 1
        simp only[List.length_take,lI];omega
       ·rw[List.getElem?_append_right (by simp;omega)]at hk
        simp only[List.length_append,List.length_take,List.length_replicate,List.getElem?_drop]at hk
        rw[show off+len+(k-(min off r.rows.length+len))=k by omega]at hk
        have kJ:=(List.getElem?_eq_some_iff.1 hk).1
        have oA:(off+len)*(m+1)<=k*(m+1):=Nat.mul_le_mul_right _ (by omega)
        rw[List.getElem?_append_right (by simp only[List.length_append,List.length_take,lI,xg];omega)]
        simp only[List.length_append,List.length_take,lI,xg,List.getElem?_drop]
        rw[show off*(m+1)+len*(m+1)+(k*(m+1)+j-(min (off*(m+1)) cur.size+len*(m+1)))=k*(m+1)+j by omega]
        have:=uo k j cs b hk hj
        rw[xd]at this;simpa using this)
    refine⟨undef,_,ι,.inl (kB ho ?_),P2,P1,cV.undef,fun _ _=>rfl⟩
    rw[ex]
    cases len with
    |zero=>exact(h0 rfl).elim
    |succ len=>
     simp only[Builtin.clear_,Sem.run_bind]
     simp[run_underlying ht,zeroValue,typeInfo,hi,uB,er,undef]
  ·simp at hv
 ·simp at hv
theorem F8 {dT sT ty e:TypeId} {it:TypeInfo} (hu:P.underlying dT=some (.slice e)) (hi:P.info? e=some it) (A B:Option Addr) (qH Dg EZ Mv:Nat) (h0:Nat.min qH EZ=0):
  (Builtin.copy_ #[dT,sT] ty #[.slice A EZ Mv,.slice B qH Dg]).run P w=.ok (goInt 0) w:=by
 cases A<;>cases B<;>simp[Builtin.copy_,run_underlying hu,Builtin.lenOf,Builtin.firstCells,sizeOf,typeInfo,hi,h0,storeCells,loadCells,loadCellsFrom]
theorem F9 {dT sT ty e:TypeId} {it:TypeInfo} (hu:P.underlying dT=some (.slice e)) (hi:P.info? e=some it) (A B:Addr) (qH Dg EZ Mv:Nat) (cs:List Value) (hn:cs.length=Nat.min qH EZ*it.size) (hl:(loadCells B cs.length).run P w=.ok cs.toArray w) (hs:(storeCells A cs).run P w=.ok () w'):
  (Builtin.copy_ #[dT,sT] ty #[.slice (some A) EZ Mv,.slice (some B) qH Dg]).run P w=.ok (goInt (Nat.min qH EZ)) w':=by
 simp[Builtin.copy_,run_underlying hu,Builtin.lenOf,Builtin.firstCells,sizeOf,typeInfo,hi,<-hn,hl,hs]
theorem o9 {x y:Operand} {t t2:TypeId} {u:Value} (ho:o.op=.call {callee:=.builtin .copy,args:= #[x,y],argTypes:= #[t,t2]}) (h:(Builtin.copy_ #[t,t2] o.type #[a.eval x,a.eval y]).run P w=.ok u w'):(execOp a.eval o).run P w=.ok (.value u) w':=by
 simp only[execOp,ho,resolve,Sem.run_bind,Sem.run_pure,Result.andThen_ok,invoke,builtin]
 simp only[List.map_toArray,List.map_cons,List.map_nil]
 rw[h];rfl
theorem Mw {x y:Operand} {x' y':O} {t t2 e:TypeId} {m:Nat} {ys:List (List AV)} {v:AV} {g':Rows} (S:gp P hs D ι g w) (E:cF P w D ι env a) (ho:o.op=.call {callee:=.builtin .copy,args:= #[x,y],argTypes:= #[t,t2]})
  (ht:P.underlying t=some (.slice e)) (fb:dW P e=some (m+1)) (hx:cO P x=some x') (hy:cO P y=some y') (Ei:bd g (cJ env y')=some ys) (hv:EC g (m+1) (cJ env x') ys=some (v,g')):BL P hs a o w D ι id v g':=by
 have rx:=cZ E hx
 have ry:=cZ E hy
 obtain⟨it,hi,jk⟩:∃it,P.info? e=some it/\it.size=m+1:=by
  cases hq:P.info? e with
  |none=>simp[dW,hq]at fb
  |some it=>exact⟨it,rfl,by simpa[dW,hq]using fb⟩
 unfold EC at hv
 split at hv
 ·rename_i i off len hb
  rw[hb]at rx
  simp only[Option.bind_eq_some_iff]at hv
  obtain⟨r,hg,hv⟩:=hv
  split at hv
  ·rename_i hc
   obtain⟨c1,c2,c3,c4⟩:=hc
   simp only[Option.some.injEq,Prod.mk.injEq]at hv
   obtain⟨rfl,rfl⟩:=hv
   rw[List.all_eq_true]at c4
   have hl:∀c∈ys,c.length=m+1:=fun c hc=>by have:=c4 c hc;simp at this;exact this.1
   have hf:∀c∈ys,∀b∈c,b.cell=true:=fun c hc b hb=>by have:=c4 c hc;simp at this;exact this.2 b hb
   obtain⟨oo,cap,B,ex,hB,h1,h2,h3,h4,hk⟩:=iC rx
   obtain⟨B',dJ,R,iv,lY⟩:=S.row _ _ hg
   rw[hB]at dJ;injection dJ with dJ;subst dJ
   replace R:=R.row hk
   obtain⟨cur,T,hblk,hC,uo⟩:=R.cur
   obtain⟨A,sc,hu,hA⟩:=qE S ry Ei hl hf
   by_cases h0:min ys.length len=0
   ·rw[h0]
    have e1:({r with rows:=r.rows.take off++ys.take 0++r.rows.drop (off+0)}:Row)=r:=by cases r;simp
    rw[e1]
    have e2:bH g i r=g:=by
     funext q;unfold bH;split
     ·rename_i h;rw[h,hg]
     ·rfl
    rw[e2]
    refine⟨goInt 0,w,ι,.inl (o9 ho (by rw[ex,hu];exact F8 ht hi _ _ _ _ _ _ h0)),Step.refl _ _ _ _,S,.eH _ _ (.int _ _),fun _ _=>rfl⟩
   ·rcases hA with rfl|⟨b,o2,news,rfl,Tl,hsrc,hR,h1c⟩
    ·simp at h0
    have Qd:Nat.min ys.length len=min ys.length len:=rfl
    have hky:min ys.length len<=ys.length:=Nat.min_le_left _ _
    have kJ:min ys.length len<=len:=Nat.min_le_right _ _
    generalize Tb:min ys.length len=kk at *
    have LG:len≠0:=by omega
    have BD:oo=off*B.sz:=by rcases h2 with h2|h2<;>omega
    have D5:B.sz=m+1:=by rw[R.sz,c2]
    have xd:r.sz=m+1:=c2
    have Nh:kk*(m+1)<=ys.length*(m+1):=Nat.mul_le_mul_right _ hky
    have xg:(news.take (kk*(m+1))).length=kk*(m+1):=by rw[List.length_take,Tl];omega
    have hbound:(off+kk)*(m+1)<=r.rows.length*(m+1):=Nat.mul_le_mul_right _ (by omega)
    have Ak:=R.fits
    rw[xd]at Ak
    have SS:(off+kk)*(m+1)=off*(m+1)+kk*(m+1):=Nat.add_mul _ _ _
    have er:=run_storeCells_at P B.b oo T (news.take (kk*(m+1))) 0 cur w hblk (by rw[xg,hC,BD,D5];omega) (fun v hv=>h1c v (List.mem_of_mem_take hv))
    have RH:=run_loadCells_list (P:=P) w ⟨b,o2,none⟩ (news.take (kk*(m+1))) (fun j v hj=>by
     rw[List.getElem?_take]at hj
     split at hj
     ·have:=hsrc j v hj
      cases j with
      |zero=>simpa[Addr.add]using this
      |succ j=>simpa[Addr.add]using this
     ·cases hj)
    simp only[Nat.add_zero]at er
    have lI:cur.toList.length=cur.size:=Array.length_toList
    have RP:(ys.take kk).length=kk:=by rw[List.length_take];omega
    obtain⟨P1,P2⟩:=S.put (r':={r with rows:=r.rows.take off++ys.take kk++r.rows.drop (off+kk)}) hg c1 hB hblk (cur':=(cur.toList.take oo++news.take (kk*(m+1))++cur.toList.drop (oo+(news.take (kk*(m+1))).length)).toArray)
     (by simp only[List.size_toArray,List.length_append,List.length_drop,lI,xg];rw[List.length_take,lI,BD,D5];omega) c1 rfl (by
      have:(r.rows.take off++ys.take kk++r.rows.drop (off+kk)).length=r.rows.length:=by simp;omega
      dsimp only;rw[this];exact R.fits) (fun cs di=>by
      rcases List.mem_append.1 di with h|h
      ·rcases List.mem_append.1 h with h|h
       ·exact R.len cs (List.mem_of_mem_take h)
       ·rw[hl cs (List.mem_of_mem_take h)];exact c2.symm
      ·exact R.len cs (List.mem_of_mem_drop h)) (fun cs di b hb=>by
      rcases List.mem_append.1 di with h|h
      ·rcases List.mem_append.1 h with h|h
       ·exact R.flat cs (List.mem_of_mem_take h) b hb
       ·exact hf cs (List.mem_of_mem_take h) b hb
      ·exact R.flat cs (List.mem_of_mem_drop h) b hb) (fun k j cs b hk hj=>by
      simp only[List.getElem?_toArray]
      rw[xd]
      rw[BD,D5,xg]
      by_cases tx:k<off
      ·rw[List.append_assoc,List.getElem?_append_left (by simp;omega),List.getElem?_take,if_pos tx]at hk
       have gC:j<m+1:=by rw[<-xd,<-R.len cs (List.mem_of_getElem? hk)];exact(List.getElem?_eq_some_iff.1 hj).1
       have h2:=jy tx gC
       rw[List.append_assoc,List.getElem?_append_left (by simp only[List.length_take,lI];omega),List.getElem?_take,if_pos h2]
       have:=uo k j cs b hk hj
       rw[xd]at this;simpa using this
      ·by_cases sZ:k<off+kk
       ·rw[List.append_assoc,List.getElem?_append_right (by simp;omega),List.getElem?_append_left (by simp;omega)]at hk
        simp only[List.length_take]at hk
        rw[show k-min off r.rows.length=k-off by omega,List.getElem?_take,if_pos (by omega)]at hk
        have gC:j<m+1:=by rw[<-hl cs (List.mem_of_getElem? hk)];exact(List.getElem?_eq_some_iff.1 hj).1
        have oA:off*(m+1)<=k*(m+1):=Nat.mul_le_mul_right _ (by omega)
        have nR:k*(m+1)+j-off*(m+1)=(k-off)*(m+1)+j:=by rw[Nat.sub_mul];omega
        have Am:(k-off)*(m+1)+j<kk*(m+1):=jy (by omega) gC
        rw[List.append_assoc,List.getElem?_append_right (by simp only[List.length_take,lI];omega),List.getElem?_append_left (by rw[xg];simp only[List.length_take,lI];omega)]
        obtain⟨u,Jq,NB⟩:=hR.2 ((k-off)*(m+1)+j) b (flat_get hl hk hj)
        refine⟨u,?_,NB⟩
        rw[List.getElem?_take]
        simp only[List.length_take,lI]
        rw[show k*(m+1)+j-min (off*(m+1)) cur.size=(k-off)*(m+1)+j by omega,if_pos Am]
        simpa using Jq
       ·rw[List.getElem?_append_right (by simp;omega)]at hk
        simp only[List.length_append,List.length_take,List.getElem?_drop]at hk
        rw[show off+kk+(k-(min off r.rows.length+min kk ys.length))=k by omega]at hk
        have kJ:=(List.getElem?_eq_some_iff.1 hk).1
        have oA:(off+kk)*(m+1)<=k*(m+1):=Nat.mul_le_mul_right _ (by omega)
        rw[List.getElem?_append_right (by rw[List.length_append,xg];simp only[List.length_take,lI];omega)]
        rw[List.getElem?_drop,List.length_append,xg]
        simp only[List.length_take,lI]
        rw[show off*(m+1)+kk*(m+1)+(k*(m+1)+j-(min (off*(m+1)) cur.size+kk*(m+1)))=k*(m+1)+j by omega]
        have:=uo k j cs b hk hj
        rw[xd]at this;simpa using this)
    refine⟨goInt kk,_,ι,.inl (o9 ho ?_),P2,P1,.eH _ _ (.int _ _),fun _ _=>rfl⟩
    rw[ex,hu]
    have:=F9 (w:=w) (sT:=t2) (ty:=o.type) ht hi ⟨B.b,oo,none⟩ ⟨b,o2,none⟩ ys.length sc len cap _ (by rw[xg,Qd,jk]) RH er
    rw[Qd]at this
    exact this
  ·simp at hv
 ·simp at hv
end
end Go.Proofs.YtgoljkjaameagaaGreat.V

namespace Go.Proofs.YtgoljkjaameagaaGreat.V
open Go.RowKit
variable {P:Program} {w w':World} {D D' D2:Nat->Prop} {ι ι' ι2:Names}
section
variable {g:Rows} {hs:Nat}
theorem gj:∀{n:Nat} {l r:List AV},cI g n l=some r->r.length=l.length/\∀(j:Nat) (b:AV),r[j]? =some b->∃a,l[j]? =some a/\fz g n a=some b
 |n,[],r,h=>by
  rw[cI]at h;simp at h;subst h;simp
 |n,a::l,r,h=>by
  rw[cI]at h
  split at h
  ·rename_i b hb
   simp only[Option.map_eq_some_iff]at h
   obtain⟨r',hr,rfl⟩:=h
   obtain⟨h1,h2⟩:=gj hr
   refine⟨by simp[h1],fun j c hj=>?_⟩
   cases j with
   |zero=>simp at hj;subst hj;exact⟨a,rfl,hb⟩
   |succ j=>simp at hj ⊢;exact h2 j c hj
  ·simp at h
theorem uj:∀{n:Nat} {l r:List (List AV)},dQ g n l=some r->r.length=l.length/\∀(j:Nat) (b:List AV),r[j]? =some b->∃a,l[j]? =some a/\cI g n a=some b
 |n,[],r,h=>by
  rw[dQ]at h;simp at h;subst h;simp
 |n,a::l,r,h=>by
  rw[dQ]at h
  split at h
  ·rename_i b hb
   simp only[Option.map_eq_some_iff]at h
   obtain⟨r',hr,rfl⟩:=h
   obtain⟨h1,h2⟩:=uj hr
   refine⟨by simp[h1],fun j c hj=>?_⟩
   cases j with
   |zero=>simp at hj;subst hj;exact⟨a,rfl,hb⟩
   |succ j=>simp at hj ⊢;exact h2 j c hj
  ·simp at h
theorem qj (hD:∀b,D b->D2 b) (wL:∀id row,g id=some row->row.w=true->∃B,ι id=some B/\iq P w D ι B row/\D2 B.b):∀(n:Nat) (a:AV) (u:Value) (r:AV),cV P w D ι a u->fz g n a=some r->cV P w D2 ι2 r u/\(a.cell=true->jK P w D2 r u/\r.cell=true):=by
 intro n
 induction n with
 |zero=>intro a u r _ h;rw[fz]at h;simp at h
 |succ n ih=>
  intro a u r hr h
  have both:∀{r:AV},jK P w D2 r u->r.cell=true->cV P w D2 ι2 r u/\(a.cell=true->jK P w D2 r u/\r.cell=true):=fun h1 h2=>⟨.eH _ _ h1,fun _=>⟨h1,h2⟩⟩
  cases a with
  |map id m=>rw[fz]at h;cases h
  |rm id=>rw[fz]at h;cases h
  |own id off len=>
   rw[fz]at h
   split at h
   ·rename_i row hg
    split at h
    ·rename_i hw
     split at h
     ·rename_i hle
      simp only[Option.map_eq_some_iff]at h
      obtain⟨rows,nQ,rfl⟩:=h
      obtain⟨B,hB,R,MP⟩:=wL id row hg hw
      obtain⟨o,cap,B',rfl,dJ,h1,h2,h3,h4,hk⟩:=iC hr
      rw[hB]at dJ;injection dJ with dJ;subst dJ
      replace R:=R.row hk
      obtain⟨l1,l2⟩:=uj nQ
      have hlen:rows.length=len:=by rw[l1];simp;omega
      by_cases h0:rows=[]
      ·subst h0
       simp at hlen;subst hlen
       exact both (.BI _ _ h4) rfl
      ·have hlp:0<len:=by rw[<-hlen];exact List.length_pos_iff.2 h0
       have ho:o=off*B.sz:=by rcases h2 with h2|h2<;>omega
       have src:∀i cs,rows[i]? =some cs->∃c0,row.rows[off+i]? =some c0/\cI g n c0=some cs:=fun i cs hi=>by
        obtain⟨c0,jr,hf⟩:=l2 i cs hi
        rw[List.getElem?_take]at jr
        split at jr
        ·rw[List.getElem?_drop]at jr;exact⟨c0,jr,hf⟩
        ·simp at jr
       have cell:∀i j,i<len->j<row.sz->∃c0 a0 v,row.rows[off+i]? =some c0/\c0[j]? =some a0/\w.cell? ⟨B.b,o+(i*row.sz+j),none⟩=some v/\cV P w D ι a0 v:=fun i j hi hj=>by
        have pT:off+i<row.rows.length:=by omega
        have e1:=List.getElem?_eq_getElem pT
        have LF:j<row.rows[off+i].length:=by rw[R.len _ (List.getElem_mem pT)];exact hj
        obtain⟨v,hv,kW⟩:=R.at_ _ _ _ _ e1 (List.getElem?_eq_getElem LF)
        refine⟨_,_,v,e1,List.getElem?_eq_getElem LF,?_,kW⟩
        rw[ho,R.sz,<-hv]
        congr 2
        rw[Nat.add_mul];omega
       refine both (.sl rows B.b o len cap row.sz (fun i j=>(w.cell? ⟨B.b,o+(i*row.sz+j),none⟩).getD undef) hlen h1 h4 MP (fun cs di=>?_) (fun cs di b hb=>?_) (fun i j hi hj=>?_) (fun i j cs b hi hj=>?_)) rfl
       ·obtain⟨i,hi,rfl⟩:=List.getElem_of_mem di
        obtain⟨c0,jr,hf⟩:=src i _ (List.getElem?_eq_getElem hi)
        rw[(gj hf).1];exact R.len c0 (List.mem_of_getElem? jr)
       ·obtain⟨i,hi,rfl⟩:=List.getElem_of_mem di
        obtain⟨c0,jr,hf⟩:=src i _ (List.getElem?_eq_getElem hi)
        obtain⟨j,hj,rfl⟩:=List.getElem_of_mem hb
        obtain⟨a0,kI,HA⟩:=(gj hf).2 j _ (List.getElem?_eq_getElem hj)
        obtain⟨v,_,kW⟩:=R.at_ _ _ _ _ jr kI
        exact((ih _ _ _ kW HA).2 (R.flat c0 (List.mem_of_getElem? jr) a0 (List.mem_of_getElem? kI))).2
       ·obtain⟨c0,a0,v,_,_,hv,_⟩:=cell i j hi hj
        simp only[hv,Option.getD_some]
       ·obtain⟨c0,jr,hf⟩:=src i cs hi
        obtain⟨a0,kI,HA⟩:=(gj hf).2 j b hj
        have o7:i<len:=by rw[<-hlen];exact(List.getElem?_eq_some_iff.1 hi).1
        have gC:j<row.sz:=by rw[<-R.len c0 (List.mem_of_getElem? jr)];exact(List.getElem?_eq_some_iff.1 kI).1
        obtain⟨c1,a1,v,e1,e2,hv,kW⟩:=cell i j o7 gC
        rw[jr]at e1;injection e1 with e1;subst e1
        rw[kI]at e2;injection e2 with e2;subst e2
        simp only[hv,Option.getD_some]
        exact((ih _ _ _ kW HA).2 (R.flat c0 (List.mem_of_getElem? jr) a0 (List.mem_of_getElem? kI))).1
     ·simp at h
    ·simp at h
   ·simp at h
  |ptr id i off=>
   rw[fz]at h
   split at h
   ·rename_i row hg
    split at h
    ·rename_i hw
     split at h
     ·rename_i c0 jr
      simp only[Option.map_eq_some_iff]at h
      obtain⟨cs,di,rfl⟩:=h
      obtain⟨B,hB,R,MP⟩:=wL id row hg hw
      obtain⟨B',rfl,dJ,hk⟩:=je hr
      rw[hB]at dJ;injection dJ with dJ;subst dJ
      replace R:=R.row hk
      obtain⟨l1,l2⟩:=gj di
      have at_:∀j b,cs[j]? =some b->∃a0 v,w.cell? ⟨B.b,i*B.sz+off+j,none⟩=some v/\cV P w D ι a0 v/\a0.cell=true/\fz g n a0=some b:=fun j b hj=>by
       obtain⟨a0,kI,hf⟩:=l2 j b hj
       rw[List.getElem?_drop]at kI
       obtain⟨v,hv,kW⟩:=R.at_ _ _ _ _ jr kI
       refine⟨a0,v,?_,kW,R.flat c0 (List.mem_of_getElem? jr) a0 (List.mem_of_getElem? kI),hf⟩
       rw[R.sz,Nat.add_assoc];exact hv
      refine both (.cN cs B.b _ (fun j=>(w.cell? ⟨B.b,i*B.sz+off+j,none⟩).getD undef) MP (fun b hb=>?_) (fun j hj=>?_) (fun j b hj=>?_)) rfl
      ·obtain⟨j,hj,rfl⟩:=List.getElem_of_mem hb
       obtain⟨a0,v,_,kW,hc,hf⟩:=at_ j _ (List.getElem?_eq_getElem hj)
       exact((ih _ _ _ kW hf).2 hc).2
      ·obtain⟨a0,v,hv,_⟩:=at_ j _ (List.getElem?_eq_getElem hj)
       simp only[hv,Option.getD_some]
      ·obtain⟨a0,v,hv,kW,hc,hf⟩:=at_ j b hj
       simp only[hv,Option.getD_some]
       exact((ih _ _ _ kW hf).2 hc).1
     ·simp at h
    ·simp at h
   ·simp at h
  |agg cs=>
   rw[fz]at h
   simp only[Option.map_eq_some_iff]at h
   obtain⟨r',np,rfl⟩:=h
   obtain⟨vs,f,rfl,h1,h2,h3,h4⟩:=iA hr
   obtain⟨l1,l2⟩:=gj np
   have hI:jK P w D2 (.agg r') (.agg vs):=.agg r' vs f (by rw[h1,l1]) (fun b hb=>by
    obtain⟨j,hj,rfl⟩:=List.getElem_of_mem hb
    obtain⟨a0,kI,hf⟩:=l2 j _ (List.getElem?_eq_getElem hj)
    exact((ih _ _ _ (h4 j a0 kI) hf).2 (h2 a0 (List.mem_of_getElem? kI))).2) (fun j hj=>h3 j (by rw[<-l1];exact hj)) (fun j b hj=>by
    obtain⟨a0,kI,hf⟩:=l2 j b hj
    exact((ih _ _ _ (h4 j a0 kI) hf).2 (h2 a0 (List.mem_of_getElem? kI))).1)
   exact⟨.eH _ _ hI,fun hc=>by simp[AV.cell]at hc⟩
  |ij cs=>
   rw[fz]at h
   simp only[Option.map_eq_some_iff]at h
   obtain⟨r',np,rfl⟩:=h
   obtain⟨vs,f,rfl,h1,h3,h4⟩:=tE hr
   obtain⟨l1,l2⟩:=gj np
   exact⟨.ij r' vs f (by rw[h1,l1]) (fun j hj=>h3 j (by rw[<-l1];exact hj)) (fun j b hj=>by
    obtain⟨a0,kI,hf⟩:=l2 j b hj
    exact(ih _ _ _ (h4 j a0 kI) hf).1),fun hc=>by simp[AV.cell]at hc⟩
  |fn f cU=>
   rw[fz]at h
   split at h
   ·rename_i dH
    simp only[Option.map_eq_some_iff]at h
    obtain⟨r',np,rfl⟩:=h
    obtain⟨vs,q,rfl,h0,h1,h3,h4⟩:=yZ hr
    obtain⟨l1,l2⟩:=gj np
    exact both (.fn f r' vs q h0 (by rw[h1,l1]) (fun j hj=>h3 j (by rw[<-l1];exact hj)) (fun j b hj=>by
     obtain⟨a0,kI,hf⟩:=l2 j b hj
     exact((ih _ _ _ (h4 j a0 kI) hf).2 (List.all_eq_true.1 dH a0 (List.mem_of_getElem? kI))).1)) rfl
   ·simp at h
  |int k m=>rw[fz]at h<;>(try simp at h)<;>(try subst h)<;>(try(rw[dh hr];exact⟨.eH _ _ (.int _ _),fun _=>⟨.int _ _,rfl⟩⟩))<;>(try(intros;simp_all))
  |bool b=>rw[fz]at h<;>(try simp at h)<;>(try subst h)<;>(try(rw[eP hr];exact⟨.eH _ _ (.bool _),fun _=>⟨.bool _,rfl⟩⟩))<;>(try(intros;simp_all))
  |str b=>rw[fz]at h<;>(try simp at h)<;>(try subst h)<;>(try(rw[fq hr];exact⟨.eH _ _ (.str _),fun _=>⟨.str _,rfl⟩⟩))<;>(try(intros;simp_all))
  |bP=>rw[fz]at h<;>(try simp at h)<;>(try subst h)<;>(try(rw[jd hr];exact⟨.eH _ _ .bP,fun _=>⟨.bP,rfl⟩⟩))<;>(try(intros;simp_all))
  |jc=>rw[fz]at h<;>(try simp at h)<;>(try subst h)<;>(try(rw[uT hr];exact⟨.eH _ _ .jc,fun _=>⟨.jc,rfl⟩⟩))<;>(try(intros;simp_all))
  |jl=>rw[fz]at h<;>(try simp at h)<;>(try subst h)<;>(try(rw[Bd hr];exact⟨.eH _ _ .jl,fun _=>⟨.jl,rfl⟩⟩))<;>(try(intros;simp_all))
  |tC f cU=>rw[fz]at h<;>(try simp at h)<;>(try(intros;simp_all))
  |gI=>rw[fz]at h<;>(try simp at h)<;>(try subst h)<;>(try(cases hr with|eH _ _ hr=>exact both (hr.frame (fun _ _=>rfl) hD) rfl))<;>(try(intros;simp_all))
  |sl rows=>rw[fz]at h<;>(try simp at h)<;>(try subst h)<;>(try(cases hr with|eH _ _ hr=>exact both (hr.frame (fun _ _=>rfl) hD) rfl))<;>(try(intros;simp_all))
  |cN cs=>rw[fz]at h<;>(try simp at h)<;>(try subst h)<;>(try(cases hr with|eH _ _ hr=>exact both (hr.frame (fun _ _=>rfl) hD) rfl))<;>(try(intros;simp_all))
theorem iG:∀{n:Nat} {l r:List AV},dR g n l=some r->r.length=l.length/\∀(j:Nat) (b:AV),r[j]? =some b->∃a,l[j]? =some a/\ga g n a=some b
 |n,[],r,h=>by
  rw[dR]at h;simp at h;subst h;simp
 |n,a::l,r,h=>by
  rw[dR]at h
  split at h
  ·rename_i b hb
   simp only[Option.map_eq_some_iff]at h
   obtain⟨r',hr,rfl⟩:=h
   obtain⟨h1,h2⟩:=iG hr
   refine⟨by simp[h1],fun j c hj=>?_⟩
   cases j with
   |zero=>simp at hj;subst hj;exact⟨a,rfl,hb⟩
   |succ j=>simp at hj ⊢;exact h2 j c hj
  ·simp at h
theorem sr:∀{n:Nat} {l r:List (List AV)},gJ g n l=some r->r.length=l.length/\∀(j:Nat) (b:List AV),r[j]? =some b->∃a,l[j]? =some a/\dR g n a=some b
 |n,[],r,h=>by
  rw[gJ]at h;simp at h;subst h;simp
 |n,a::l,r,h=>by
  rw[gJ]at h
  split at h
  ·rename_i b hb
   simp only[Option.map_eq_some_iff]at h
   obtain⟨r',hr,rfl⟩:=h
   obtain⟨h1,h2⟩:=sr hr
   refine⟨by simp[h1],fun j c hj=>?_⟩
   cases j with
   |zero=>simp at hj;subst hj;exact⟨a,rfl,hb⟩
   |succ j=>simp at hj ⊢;exact h2 j c hj
  ·simp at h
theorem Fc (wL:∀id row,g id=some row->row.w=true->∃B,ι id=some B/\iq P w D ι B row/\D2 B.b):∀(n:Nat) (a:AV) (u:Value) (r:AV),cV P w D ι a u->ga g n a=some r->cV P w D2 ι2 r u/\(a.cell=true->jK P w D2 r u/\r.cell=true):=by
 intro n
 induction n with
 |zero=>intro a u r _ h;rw[ga]at h;simp at h
 |succ n ih=>
  intro a u r hr h
  have both:∀{r:AV},jK P w D2 r u->r.cell=true->cV P w D2 ι2 r u/\(a.cell=true->jK P w D2 r u/\r.cell=true):=fun h1 h2=>⟨.eH _ _ h1,fun _=>⟨h1,h2⟩⟩
  cases a with
  |map id m=>rw[ga]at h<;>simp_all
  |rm id=>rw[ga]at h<;>simp_all
  |own id off len=>
   rw[ga]at h
   split at h
   ·rename_i row hg
    split at h
    ·rename_i hw
     split at h
     ·rename_i hle
      simp only[Option.map_eq_some_iff]at h
      obtain⟨rows,nQ,rfl⟩:=h
      obtain⟨B,hB,R,MP⟩:=wL id row hg hw
      obtain⟨o,cap,B',rfl,dJ,h1,h2,h3,h4,hk⟩:=iC hr
      rw[hB]at dJ;injection dJ with dJ;subst dJ
      replace R:=R.row hk
      obtain⟨l1,l2⟩:=sr nQ
      have hlen:rows.length=len:=by rw[l1];simp;omega
      by_cases h0:rows=[]
      ·subst h0
       simp at hlen;subst hlen
       exact both (.BI _ _ h4) rfl
      ·have hlp:0<len:=by rw[<-hlen];exact List.length_pos_iff.2 h0
       have ho:o=off*B.sz:=by rcases h2 with h2|h2<;>omega
       have src:∀i cs,rows[i]? =some cs->∃c0,row.rows[off+i]? =some c0/\dR g n c0=some cs:=fun i cs hi=>by
        obtain⟨c0,jr,hf⟩:=l2 i cs hi
        rw[List.getElem?_take]at jr
        split at jr
        ·rw[List.getElem?_drop]at jr;exact⟨c0,jr,hf⟩
        ·simp at jr
       have cell:∀i j,i<len->j<row.sz->∃c0 a0 v,row.rows[off+i]? =some c0/\c0[j]? =some a0/\w.cell? ⟨B.b,o+(i*row.sz+j),none⟩=some v/\cV P w D ι a0 v:=fun i j hi hj=>by
        have pT:off+i<row.rows.length:=by omega
        have e1:=List.getElem?_eq_getElem pT
        have LF:j<row.rows[off+i].length:=by rw[R.len _ (List.getElem_mem pT)];exact hj
        obtain⟨v,hv,kW⟩:=R.at_ _ _ _ _ e1 (List.getElem?_eq_getElem LF)
        refine⟨_,_,v,e1,List.getElem?_eq_getElem LF,?_,kW⟩
        rw[ho,R.sz,<-hv]
        congr 2
        rw[Nat.add_mul];omega
       refine both (.sl rows B.b o len cap row.sz (fun i j=>(w.cell? ⟨B.b,o+(i*row.sz+j),none⟩).getD undef) hlen h1 h4 MP (fun cs di=>?_) (fun cs di b hb=>?_) (fun i j hi hj=>?_) (fun i j cs b hi hj=>?_)) rfl
       ·obtain⟨i,hi,rfl⟩:=List.getElem_of_mem di
        obtain⟨c0,jr,hf⟩:=src i _ (List.getElem?_eq_getElem hi)
        rw[(iG hf).1];exact R.len c0 (List.mem_of_getElem? jr)
       ·obtain⟨i,hi,rfl⟩:=List.getElem_of_mem di
        obtain⟨c0,jr,hf⟩:=src i _ (List.getElem?_eq_getElem hi)
        obtain⟨j,hj,rfl⟩:=List.getElem_of_mem hb
        obtain⟨a0,kI,HA⟩:=(iG hf).2 j _ (List.getElem?_eq_getElem hj)
        obtain⟨v,_,kW⟩:=R.at_ _ _ _ _ jr kI
        exact((ih _ _ _ kW HA).2 (R.flat c0 (List.mem_of_getElem? jr) a0 (List.mem_of_getElem? kI))).2
       ·obtain⟨c0,a0,v,_,_,hv,_⟩:=cell i j hi hj
        simp only[hv,Option.getD_some]
       ·obtain⟨c0,jr,hf⟩:=src i cs hi
        obtain⟨a0,kI,HA⟩:=(iG hf).2 j b hj
        have o7:i<len:=by rw[<-hlen];exact(List.getElem?_eq_some_iff.1 hi).1
        have gC:j<row.sz:=by rw[<-R.len c0 (List.mem_of_getElem? jr)];exact(List.getElem?_eq_some_iff.1 kI).1
        obtain⟨c1,a1,v,e1,e2,hv,kW⟩:=cell i j o7 gC
        rw[jr]at e1;injection e1 with e1;subst e1
        rw[kI]at e2;injection e2 with e2;subst e2
        simp only[hv,Option.getD_some]
        exact((ih _ _ _ kW HA).2 (R.flat c0 (List.mem_of_getElem? jr) a0 (List.mem_of_getElem? kI))).1
     ·simp at h
    ·simp at h
   ·simp at h
  |ptr id i off=>
   rw[ga]at h
   split at h
   ·rename_i row hg
    split at h
    ·rename_i hw
     split at h
     ·rename_i c0 jr
      simp only[Option.map_eq_some_iff]at h
      obtain⟨cs,di,rfl⟩:=h
      obtain⟨B,hB,R,MP⟩:=wL id row hg hw
      obtain⟨B',rfl,dJ,hk⟩:=je hr
      rw[hB]at dJ;injection dJ with dJ;subst dJ
      replace R:=R.row hk
      obtain⟨l1,l2⟩:=iG di
      have at_:∀j b,cs[j]? =some b->∃a0 v,w.cell? ⟨B.b,i*B.sz+off+j,none⟩=some v/\cV P w D ι a0 v/\a0.cell=true/\ga g n a0=some b:=fun j b hj=>by
       obtain⟨a0,kI,hf⟩:=l2 j b hj
       rw[List.getElem?_drop]at kI
       obtain⟨v,hv,kW⟩:=R.at_ _ _ _ _ jr kI
       refine⟨a0,v,?_,kW,R.flat c0 (List.mem_of_getElem? jr) a0 (List.mem_of_getElem? kI),hf⟩
       rw[R.sz,Nat.add_assoc];exact hv
      refine both (.cN cs B.b _ (fun j=>(w.cell? ⟨B.b,i*B.sz+off+j,none⟩).getD undef) MP (fun b hb=>?_) (fun j hj=>?_) (fun j b hj=>?_)) rfl
      ·obtain⟨j,hj,rfl⟩:=List.getElem_of_mem hb
       obtain⟨a0,v,_,kW,hc,hf⟩:=at_ j _ (List.getElem?_eq_getElem hj)
       exact((ih _ _ _ kW hf).2 hc).2
      ·obtain⟨a0,v,hv,_⟩:=at_ j _ (List.getElem?_eq_getElem hj)
       simp only[hv,Option.getD_some]
      ·obtain⟨a0,v,hv,kW,hc,hf⟩:=at_ j b hj
       simp only[hv,Option.getD_some]
       exact((ih _ _ _ kW hf).2 hc).1
     ·simp at h
    ·simp at h
   ·simp at h
  |agg cs=>
   rw[ga]at h
   simp only[Option.map_eq_some_iff]at h
   obtain⟨r',np,rfl⟩:=h
   obtain⟨vs,f,rfl,h1,h2,h3,h4⟩:=iA hr
   obtain⟨l1,l2⟩:=iG np
   have hI:jK P w D2 (.agg r') (.agg vs):=.agg r' vs f (by rw[h1,l1]) (fun b hb=>by
    obtain⟨j,hj,rfl⟩:=List.getElem_of_mem hb
    obtain⟨a0,kI,hf⟩:=l2 j _ (List.getElem?_eq_getElem hj)
    exact((ih _ _ _ (h4 j a0 kI) hf).2 (h2 a0 (List.mem_of_getElem? kI))).2) (fun j hj=>h3 j (by rw[<-l1];exact hj)) (fun j b hj=>by
    obtain⟨a0,kI,hf⟩:=l2 j b hj
    exact((ih _ _ _ (h4 j a0 kI) hf).2 (h2 a0 (List.mem_of_getElem? kI))).1)
   exact⟨.eH _ _ hI,fun hc=>by simp[AV.cell]at hc⟩
  |ij cs=>
   rw[ga]at h
   simp only[Option.map_eq_some_iff]at h
   obtain⟨r',np,rfl⟩:=h
   obtain⟨vs,f,rfl,h1,h3,h4⟩:=tE hr
   obtain⟨l1,l2⟩:=iG np
   exact⟨.ij r' vs f (by rw[h1,l1]) (fun j hj=>h3 j (by rw[<-l1];exact hj)) (fun j b hj=>by
    obtain⟨a0,kI,hf⟩:=l2 j b hj
    exact(ih _ _ _ (h4 j a0 kI) hf).1),fun hc=>by simp[AV.cell]at hc⟩
  |fn f cU=>rw[ga]at h<;>(try simp at h)<;>(try(intros;simp_all))
  |int k m=>rw[ga]at h<;>(try simp at h)<;>(try subst h)<;>(try(rw[dh hr];exact⟨.eH _ _ (.int _ _),fun _=>⟨.int _ _,rfl⟩⟩))<;>(try(intros;simp_all))
  |bool b=>rw[ga]at h<;>(try simp at h)<;>(try subst h)<;>(try(rw[eP hr];exact⟨.eH _ _ (.bool _),fun _=>⟨.bool _,rfl⟩⟩))<;>(try(intros;simp_all))
  |str b=>rw[ga]at h<;>(try simp at h)<;>(try subst h)<;>(try(rw[fq hr];exact⟨.eH _ _ (.str _),fun _=>⟨.str _,rfl⟩⟩))<;>(try(intros;simp_all))
  |bP=>rw[ga]at h<;>(try simp at h)<;>(try subst h)<;>(try(rw[jd hr];exact⟨.eH _ _ .bP,fun _=>⟨.bP,rfl⟩⟩))<;>(try(intros;simp_all))
  |jc=>rw[ga]at h<;>(try simp at h)<;>(try subst h)<;>(try(rw[uT hr];exact⟨.eH _ _ .jc,fun _=>⟨.jc,rfl⟩⟩))<;>(try(intros;simp_all))
  |jl=>rw[ga]at h<;>(try simp at h)<;>(try subst h)<;>(try(rw[Bd hr];exact⟨.eH _ _ .jl,fun _=>⟨.jl,rfl⟩⟩))<;>(try(intros;simp_all))
  |tC f cU=>rw[ga]at h<;>(try simp at h)<;>(try(intros;simp_all))
  |gI=>rw[ga]at h<;>(try simp at h)<;>(try subst h)<;>(try(cases hr with|eH _ _ hr=>cases hr;exact both .gI rfl))<;>(try(intros;simp_all))
  |sl rows=>rw[ga]at h<;>(try simp at h)<;>(try(intros;simp_all))
  |cN cs=>rw[ga]at h<;>(try simp at h)<;>(try(intros;simp_all))
end
end Go.Proofs.YtgoljkjaameagaaGreat.V

namespace Go.Proofs.YtgoljkjaameagaaGreat.V
open Go.RowKit
variable {P:Program} {w w':World} {D D':Nat->Prop} {ι ι':Names}
section
variable {g:Rows} {hs:Nat} {env:Env} {a:Act} {o:Oper} {id:Id} {v:AV}
theorem gp.Gp (S:gp P hs D ι g w) {i:Id} {r r':Row} {B:r9} {ob:Obj} (hid:g i=some r) (hw:r.w=true) (hB:ι i=some B)
  (hR:(∀a v,cV P w D ι a v->cV P {w with heap:=w.heap.setIfInBounds B.b ob} D ι a v)->(w.heap.setIfInBounds B.b ob)[B.b]? =some ob->iq P {w with heap:=w.heap.setIfInBounds B.b ob} D ι B r'):
  gp P hs D ι (bH g i r') {w with heap:=w.heap.setIfInBounds B.b ob}/\Step hs D ι w D ι {w with heap:=w.heap.setIfInBounds B.b ob}:=by
 obtain⟨B0,Af,R,iv,lY⟩:=S.row i r hid
 rw[hB]at Af;injection Af with Af;subst Af
 have other:∀b,b≠B.b->(w.heap.setIfInBounds B.b ob)[b]? =w.heap[b]? :=fun b hb=>by simp[Ne.symm hb]
 have hd:∀b,D b->(w.heap.setIfInBounds B.b ob)[b]? =w.heap[b]? :=fun b hb=>other b (by rintro rfl;exact lY hw hb)
 have hr:∀a v,cV P w D ι a v->cV P {w with heap:=w.heap.setIfInBounds B.b ob} D ι a v:=fun a v h=>h.frame hd (fun _ h=>h) (fun _ _ h=>h)
 refine⟨⟨by simpa using S.lo,fun b hb=>by simpa using S.dead b hb,fun j q h=>?_,fun j j' q q' C C' h h' Ql hC Cv he=>?_⟩,⟨⟨rfl,rfl,rfl,by simp,fun k hk=>other k (by have:=iv hw;omega)⟩,hd,fun _ h=>h,fun _ _ h=>h,fun _ h=>.inl h⟩⟩
 ·unfold bH at h
  split at h
  ·rename_i e
   subst e
   injection h with h;subst h
   exact⟨B,hB,hR hr (by simp[R.lt]),fun _=>iv hw,fun _=>lY hw⟩
  ·rename_i e
   obtain⟨C,hC,RC,k1,k2⟩:=S.row j q h
   refine⟨C,hC,RC.frame (other C.b (fun Lu=>e ?_)) hr,k1,k2⟩
   exact(S.inj i j r q B C hid h hw hB hC Lu.symm).symm
 ·unfold bH at h h'
  have get:∀j p,(if j=i then some r' else g j)=some p->∃p0,g j=some p0/\(p.w=true->p0.w=true):=fun j p hp=>by
   split at hp
   ·rename_i e;subst e;injection hp with hp;subst hp;exact⟨r,hid,fun _=>hw⟩
   ·exact⟨p,hp,fun h=>h⟩
  obtain⟨p,hp,OU⟩:=get _ _ h
  obtain⟨p',Nn,_⟩:=get _ _ h'
  exact S.inj j j' p p' C C' hp Nn (OU Ql) hC Cv he
theorem DU {s:TS} {x y:AV} {u v:Value} (he:e6 s x y=some true) (hx:cV P w D ι x u) (hy:cV P w D ι y v):u=v/\∀n,Instr.sameBits n u v=true:=by
 unfold e6 at he
 split at he
 ·split at he
  ·rename_i hk
   subst hk
   simp at he;subst he
   rw[dh hx,dh hy]
   exact⟨rfl,fun n=>by cases n<;>simp[Instr.sameBits]⟩
  ·cases he
 ·simp at he;subst he
  rw[eP hx,eP hy]
  exact⟨rfl,fun n=>by cases n<;>simp[Instr.sameBits]⟩
 ·simp at he;subst he
  rw[fq hx,fq hy]
  exact⟨rfl,fun n=>by cases n<;>simp[Instr.sameBits,GZ]⟩
 ·cases he
theorem zV {n:Nat}:∀{ts:List TS} {xs ys:List AV} {vs us:List Value},eF ts xs ys=some true->vs.length=xs.length->us.length=ys.length->(∀(j:Nat) (a:AV),xs[j]? =some a->∃u,vs[j]? =some u/\cV P w D ι a u)->(∀(j:Nat) (a:AV),ys[j]? =some a->∃u,us[j]? =some u/\cV P w D ι a u)->
  us.length=vs.length/\(us.zip vs).all (fun p=>Instr.sameBits n p.1 p.2)=true
 |[],[],[],vs,us,_,h1,h2,_,_=>by
  cases vs<;>cases us<;>simp_all
 |[],x::xs,ys,vs,us,h,_,_,_,_=>by simp[eF]at h
 |[],[],y::ys,vs,us,h,_,_,_,_=>by simp[eF]at h
 |t::ts,[],ys,vs,us,h,_,_,_,_=>by simp[eF]at h
 |t::ts,x::xs,[],vs,us,h,_,_,_,_=>by simp[eF]at h
 |t::ts,x::xs,y::ys,[],us,h,h1,_,_,_=>by simp at h1
 |t::ts,x::xs,y::ys,v::vs,[],h,_,h2,_,_=>by simp at h2
 |t::ts,x::xs,y::ys,v::vs,u::us,h,h1,h2,hx,hy=>by
  unfold eF at h
  split at h
  ·rename_i a b ha hb
   simp only[Option.some.injEq,Bool.and_eq_true]at h
   obtain⟨rfl,rfl⟩:=h
   obtain⟨v',nf,rv⟩:=hx 0 x rfl
   obtain⟨u',Eg,ru⟩:=hy 0 y rfl
   simp at nf Eg;subst nf;subst Eg
   obtain⟨e1,e2⟩:=DU ha rv ru
   obtain⟨q1,q2⟩:=zV (n:=n) hb (by simpa using h1) (by simpa using h2) (fun j a hj=>by simpa using hx (j+1) a (by simpa using hj)) (fun j a hj=>by simpa using hy (j+1) a (by simpa using hj))
   refine⟨by simp[q1],?_⟩
   simp only[List.zip_cons_cons,List.all_cons,q2,Bool.and_true]
   rw[<-e1]
   have:=e2 n
   rw[<-e1]at this
   exact this
  ·cases h
theorem AS {m:MK} {key:List AV}:∀{rows:List (List AV)} {i j:Nat},ib m key rows i=some (some j)->∃cs,i<=j/\rows[j-i]? =some cs/\eF m.ts key (cs.take m.ks)=some true
 |[],i,j,h=>by simp[ib]at h
 |cs::rows,i,j,h=>by
  unfold ib at h
  split at h
  ·rename_i hq
   simp at h;subst h
   exact⟨cs,Nat.le_refl _,by simp,hq⟩
  ·obtain⟨c,h1,h2,h3⟩:=AS h
   exact⟨c,by omega,by rw[show j-i=(j-(i+1))+1 by omega];simpa using h2,h3⟩
  ·cases h
theorem uK {m:MK} {k:AV} {rows:List (List AV)} {fi:Option Nat} (h:gS m k rows=some fi):k.isAgg=m.ka/\k.cells.length=m.ks/\(k.cells.all AV.cell=true)/\ib m k.cells rows 0=some fi:=by
 unfold gS at h
 split at h
 ·rename_i hc;exact⟨hc.1,hc.2.1,hc.2.2,h⟩
 ·cases h
theorem Is {m:MK} {k y:AV} (h1:k.isAgg=m.ka) (h2:k.cells.length=m.ks):part m.ka m.ks (k.cells++[y])=some k/\(k.cells++[y])[m.ks]? =some y:=by
 refine⟨?_,by rw[List.getElem?_append_right (by omega),h2,Nat.sub_self];rfl⟩
 cases hk:m.ka with
 |false=>
  rw[hk]at h1
  rw[ub h1];rfl
 |true=>
  rw[hk]at h1
  cases k<;>simp[AV.isAgg]at h1
  rename_i cs
  simp only[AV.cells]at h2 ⊢
  simp only[part,if_true]
  rw[if_pos (by simp;omega),<-h2,List.take_left']
  rfl
theorem stays {k:TypeId} {m:MK} (hK:DI P k m) {key kv:AV} {u A6:Value} {cs:List AV} (h1:key.isAgg=m.ka) (hr:cV P w D ι key u) (hp:part m.ka m.ks cs=some kv) (ho:cV P w D ι kv A6) (he:eF m.ts key.cells (cs.take m.ks)=some true):(Instr.keyThatStays A6 u).run P w=.ok u w:=by
 have hs:Instr.sameBits 10000 A6 u=true:=by
  rcases hK with⟨s,rfl,hs⟩|⟨fs,ts,rfl,ql,wb,er,dH⟩
  ·rw[ub h1]at he
   cases cs with
   |nil=>simp[part]at hp
   |cons c l=>
    simp[part]at hp;subst hp
    simp only[MK.ks,List.length_cons,List.length_nil,Nat.zero_add,List.take_succ_cons,List.take_zero,eF]at he
    cases hq:e6 s key c with
    |none=>rw[hq]at he;simp at he
    |some b=>
     rw[hq]at he;simp at he;subst he
     obtain⟨e1,e2⟩:=DU hq hr ho
     rw[<-e1]
     have:=e2 10000
     rwa [<-e1]at this
  ·cases key<;>simp[AV.isAgg]at h1
   rename_i ks
   simp only[part,if_true]at hp
   split at hp
   ·simp only[Option.some.injEq]at hp;subst hp
    obtain⟨vs,rfl,n1,r1⟩:=qD hr
    obtain⟨us,rfl,n2,r2⟩:=qD ho
    obtain⟨q1,q2⟩:=zV (n:=9999) (vs:=vs.toList) (us:=us.toList) he (by simpa[AV.cells]using n1) (by simpa using n2) (fun j a hj=>by simpa using r1 j a hj) (fun j a hj=>by simpa using r2 j a hj)
    simp only[Instr.sameBits,Bool.and_eq_true,beq_iff_eq]
    exact⟨by simpa using q1,q2⟩
   ·cases hp
 simp[Instr.keyThatStays,hs]
theorem IH {es:Array MapEntry} {clock:Nat} (h:Mg es clock) (k v:Value):Mg (es.push ⟨k,v,clock⟩) (clock+1):=by
 refine⟨fun x hx=>?_,?_⟩
 ·simp only[Array.toList_push,List.mem_append,List.mem_singleton]at hx
  rcases hx with hx|rfl
  ·have:=h.1 x hx;omega
  ·exact Nat.lt_succ_self _
 ·simp only[Array.toList_push,List.map_append,List.map_cons,List.map_nil]
  refine List.nodup_append.2 ⟨h.2,by simp,fun a ha b hb=>?_⟩
  obtain⟨x,hx,rfl⟩:=List.mem_map.1 ha
  simp at hb;subst hb
  have:=h.1 x hx;omega
theorem Dq {es:Array MapEntry} {clock:Nat} (h:Mg es clock) (j:Nat) (k v:Value):Mg (es.modify j fun e=>{e with key:=k,val:=v}) clock:=by
 have e:(es.modify j fun e=>{e with key:=k,val:=v}).toList.map (·.born)=es.toList.map (·.born):=by
  refine List.ext_getElem? fun i=>?_
  simp only[List.getElem?_map,Array.getElem?_toList,Array.getElem?_modify]
  split
  ·cases es[i]? <;>rfl
  ·rfl
 refine⟨fun x hx=>?_,by rw[e];exact h.2⟩
 have hb:x.born∈(es.modify j fun e=>{e with key:=k,val:=v}).toList.map (·.born):=List.mem_map_of_mem hx
 rw[e]at hb
 obtain⟨y,hy,hyb⟩:=List.mem_map.1 hb
 rw[<-hyb];exact h.1 y hy
theorem Gc {es:Array MapEntry} {clock:Nat} (h:Mg es clock) {j:Nat} (hj:j<es.size):Mg (es.eraseIdxIfInBounds j) clock:=by
 have e:(es.eraseIdxIfInBounds j).toList=es.toList.eraseIdx j:=by
  unfold Array.eraseIdxIfInBounds
  rw[dif_pos hj,Array.toList_eraseIdx]
 refine⟨fun x hx=>h.1 x ((List.eraseIdx_sublist _ _).subset (by rwa [e]at hx)),?_⟩
 rw[e]
 exact((List.eraseIdx_sublist es.toList j).map (·.born)).nodup h.2
theorem z8 {k y:AV} (h1:k.cells.all AV.cell=true) (h2:y.cell=true):∀a∈k.cells++[y],a.cell=true:=fun a ha=>by
 rcases List.mem_append.1 ha with ha|ha
 ·exact List.all_eq_true.1 h1 a ha
 ·rw[List.mem_singleton.1 ha];exact h2
theorem My {t:TypeId} {x k y:Operand} {m:MK} {z:K} {x' k' y':O} {g':Rows} (S:gp P hs D ι g w) (E:cF P w D ι env a) (ho:o.op=.mapUpdate t x k y∨o.op=.insert t x k y) (hc:rh P t=some (m,z)) (hx:cO P x=some x') (hk:cO P k=some k') (hy:cO P y=some y')
  (hv:bl (.set m) [cJ env x',cJ env k',cJ env y'] g=some g'):BL P hs a o w D ι id .undef g':=by
 obtain⟨kt,e,i,zv,ht,hi,uB,RE,hK⟩:=qb hc
 simp only[bl,Option.bind_eq_some_iff]at hv
 obtain⟨p,hp,fi,Lx,hv⟩:=hv
 split at hv
 ·rename_i hcond
  obtain⟨hw,hyc,_⟩:=hcond
  simp only[Option.some.injEq]at hv;subst hv
  obtain⟨B,hu,hg,hB,tn,es,clock,hb,fb,hlen,hM⟩:=yO S (cZ E hx) hp
  have rk:=cZ E hk
  have ry:=cZ E hy
  obtain⟨Jg,res,hf,hF⟩:=ug (B:=B) hK rk fb hM Lx
  obtain⟨k1,k2,k3,k4⟩:=uK Lx
  obtain⟨B',dJ,R,_⟩:=S.row p.1 p.2 hg
  rw[hB]at dJ;injection dJ with dJ;subst dJ
  obtain⟨pk1,pk2⟩:=Is (y:=cJ env y') k1 k2
  have eT:(getObj B.b).run P w=.ok (.map es clock) w:=MapKept.run_getObj_map hb
  rcases hF with⟨rfl,rfl⟩|⟨j,en,rfl,he,rfl⟩
  ·have mY:=S.Gp (ob:=.map (es.push ⟨a.eval k,a.eval y,clock⟩) (clock+1)) (r':={p.2 with rows:=da p.2.rows ((cJ env k').cells++[cJ env y']) none}) hg hw hB fun hr kh=>⟨R.sz,fun cs di=>?_,fun tu=>(by rw[tn]at tu;cases tu),fun m' Ao=>?_,fun c hc=>(by rw[tn]at hc;cases hc)⟩
   ·refine⟨undef,_,ι,.inr ⟨?_,rfl⟩,mY.2,mY.1,cV.undef,fun _ _=>rfl⟩
    rcases ho with ho|ho<;>
    ·simp only[execOp,ho,Instr.mapUpdate,hu,Sem.run_bind,run_underlying ht,Result.andThen_ok,eT,Jg,hf,MapKept.run_setObj_map _ hb,Sem.run_pure]
   ·rcases List.mem_append.1 di with h|h
    ·exact R.flat cs h
    ·rw[List.mem_singleton.1 h];exact z8 k3 hyc
   ·rw[tn]at Ao;simp only[Option.some.injEq,BK.map.injEq]at Ao;subst Ao
    refine⟨(R.map m tn).1,_,_,kh,by simp[da,fb],⟨fun cs di=>?_,IH hlen.2 _ _⟩,fun q cs hq=>?_⟩
    ·rcases List.mem_append.1 di with h|h
     ·exact hlen.1 cs h
     ·rw[List.mem_singleton.1 h];simp[k2]
    ·rcases Nat.lt_or_ge q p.2.rows.length with dV|oA
     ·simp only[da]at hq
      rw[List.getElem?_append_left dV]at hq
      obtain⟨en,kv,vv,q1,q2,q3,q4,q5⟩:=hM q cs hq
      exact⟨en,kv,vv,by rw[Array.getElem?_push_lt (by omega)];rw[Array.getElem?_eq_getElem (by omega)]at q1;simpa using q1,q2,q3,hr _ _ q4,hr _ _ q5⟩
     ·simp only[da]at hq
      rw[List.getElem?_append_right oA]at hq
      have hq0:q=p.2.rows.length:=by
       have:=(List.getElem?_eq_some_iff.1 hq).1
       simp at this;omega
      subst hq0
      simp at hq;subst hq
      exact⟨⟨a.eval k,a.eval y,clock⟩,_,_,by rw[<-fb];simp,pk1,pk2,hr _ _ rk,hr _ _ ry⟩
  ·simp only[Nat.zero_add]at k4 Lx hf ⊢
   obtain⟨OE,_,J0,heq⟩:=AS k4
   simp only[Nat.sub_zero]at J0
   obtain⟨Sj,kv,vv,q1,q2,_,q4,_⟩:=hM j OE J0
   have Jh:Sj=en:=by
    have h1:es.toList[j]? =some Sj:=by simpa using q1
    rw[he]at h1;injection h1 with h1;exact h1.symm
   subst Jh
   have er:=stays (w:=w) hK k1 rk q2 q4 heq
   have mY:=S.Gp (ob:=.map (es.modify j fun e=>{e with key:=a.eval k,val:=a.eval y}) clock) (r':={p.2 with rows:=da p.2.rows ((cJ env k').cells++[cJ env y']) (some j)}) hg hw hB fun hr kh=>⟨R.sz,fun cs di=>?_,fun tu=>(by rw[tn]at tu;cases tu),fun m' Ao=>?_,fun c hc=>(by rw[tn]at hc;cases hc)⟩
   ·refine⟨undef,_,ι,.inr ⟨?_,rfl⟩,mY.2,mY.1,cV.undef,fun _ _=>rfl⟩
    rcases ho with ho|ho<;>
    ·simp only[execOp,ho,Instr.mapUpdate,hu,Sem.run_bind,run_underlying ht,Result.andThen_ok,eT,Jg,hf,q1,Option.map_some,Option.getD_some,er,MapKept.run_setObj_map _ hb,Sem.run_pure]
   ·rcases List.mem_or_eq_of_mem_set di with h|h
    ·exact R.flat cs h
    ·rw[h];exact z8 k3 hyc
   ·rw[tn]at Ao;simp only[Option.some.injEq,BK.map.injEq]at Ao;subst Ao
    have gC:=(List.getElem?_eq_some_iff.1 J0).1
    refine⟨(R.map m tn).1,_,_,kh,by simp[da,fb],⟨fun cs di=>?_,Dq hlen.2 _ _ _⟩,fun q cs hq=>?_⟩
    ·rcases List.mem_or_eq_of_mem_set di with h|h
     ·exact hlen.1 cs h
     ·rw[h];simp[k2]
    ·simp only[da,List.getElem?_set]at hq
     split at hq
     ·rename_i OO
      subst OO
      (try rw[if_pos gC]at hq)
      injection hq with hq;subst hq
      exact⟨{Sj with key:=a.eval k,val:=a.eval y},_,_,by rw[Array.getElem?_modify];simp[q1],pk1,pk2,hr _ _ rk,hr _ _ ry⟩
     ·rename_i OO
      obtain⟨en,kv,vv,q1,q2,q3,q4,q5⟩:=hM q cs hq
      exact⟨en,kv,vv,by rw[Array.getElem?_modify];simp[OO,q1],q2,q3,hr _ _ q4,hr _ _ q5⟩
 ·cases hv
theorem Mx {t t':TypeId} {x k:Operand} {m:MK} {z:K} {x' k':O} {g':Rows} (S:gp P hs D ι g w) (E:cF P w D ι env a) (ho:o.op=.call {callee:=.builtin .delete,args:= #[x,k],argTypes:= #[t,t']}) (hc:rh P t=some (m,z)) (hx:cO P x=some x') (hk:cO P k=some k')
  (hv:bl (.del m) [cJ env x',cJ env k'] g=some g'):BL P hs a o w D ι id .undef g':=by
 obtain⟨kt,e,i,zv,ht,hi,uB,RE,hK⟩:=qb hc
 simp only[bl,Option.bind_eq_some_iff]at hv
 obtain⟨p,hp,fi,Lx,hv⟩:=hv
 split at hv
 ·rename_i hw
  simp only[Option.some.injEq]at hv;subst hv
  obtain⟨B,hu,hg,hB,tn,es,clock,hb,fb,hlen,hM⟩:=yO S (cZ E hx) hp
  have rk:=cZ E hk
  obtain⟨Jg,res,hf,hF⟩:=ug (B:=B) hK rk fb hM Lx
  obtain⟨k1,k2,k3,k4⟩:=uK Lx
  obtain⟨B',dJ,R,_⟩:=S.row p.1 p.2 hg
  rw[hB]at dJ;injection dJ with dJ;subst dJ
  have eT:(getObj B.b).run P w=.ok (.map es clock) w:=MapKept.run_getObj_map hb
  have go:∀ob,(Builtin.delete_ #[t,t'] o.type #[a.eval x,a.eval k]).run P w=.ok (.tuple #[]) {w with heap:=w.heap.setIfInBounds B.b ob}->(execOp a.eval o).run P w=.ok (.value undef) {w with heap:=w.heap.setIfInBounds B.b ob}:=fun ob h=>by
   simp only[execOp,ho,resolve,Sem.run_bind,Sem.run_pure,Result.andThen_ok,invoke,builtin,Array.map]
   simp[h,undef]
  rcases hF with⟨rfl,rfl⟩|⟨j,en,rfl,he,rfl⟩
  ·have mY:=S.Gp (ob:=.map es clock) (r':={p.2 with rows:=dj p.2.rows none}) hg hw hB fun hr kh=>⟨R.sz,R.flat,fun tu=>(by rw[tn]at tu;cases tu),fun m' Ao=>?_,fun c hc=>(by rw[tn]at hc;cases hc)⟩
   ·refine⟨undef,_,ι,.inl (go _ ?_),mY.2,mY.1,cV.undef,fun _ _=>rfl⟩
    simp[Builtin.delete_,hu,run_underlying ht,eT,Jg,hf,MapKept.run_setObj_map _ hb]
   ·rw[tn]at Ao;simp only[Option.some.injEq,BK.map.injEq]at Ao;subst Ao
    exact⟨(R.map m tn).1,_,_,kh,fb,hlen,fun q cs hq=>by
     obtain⟨en,kv,vv,q1,q2,q3,q4,q5⟩:=hM q cs hq
     exact⟨en,kv,vv,q1,q2,q3,hr _ _ q4,hr _ _ q5⟩⟩
  ·simp only[Nat.zero_add]at hf ⊢
   have gC:j<es.size:=by have:=(List.getElem?_eq_some_iff.1 he).1;simpa using this
   have mY:=S.Gp (ob:=.map (es.eraseIdxIfInBounds j) clock) (r':={p.2 with rows:=dj p.2.rows (some j)}) hg hw hB fun hr kh=>⟨R.sz,fun cs di=>R.flat cs (List.mem_of_mem_eraseIdx di),fun tu=>(by rw[tn]at tu;cases tu),fun m' Ao=>?_,fun c hc=>(by rw[tn]at hc;cases hc)⟩
   ·refine⟨undef,_,ι,.inl (go _ ?_),mY.2,mY.1,cV.undef,fun _ _=>rfl⟩
    simp[Builtin.delete_,hu,run_underlying ht,eT,Jg,hf,MapKept.run_setObj_map _ hb]
   ·rw[tn]at Ao;simp only[Option.some.injEq,BK.map.injEq]at Ao;subst Ao
    have he2:∀q,(es.eraseIdxIfInBounds j)[q]? =(es.toList.eraseIdx j)[q]? :=fun q=>by
     unfold Array.eraseIdxIfInBounds
     rw[dif_pos gC,<-Array.getElem?_toList,Array.toList_eraseIdx]
    refine⟨(R.map m tn).1,_,_,kh,by simp[dj,Array.eraseIdxIfInBounds,gC,List.length_eraseIdx,<-fb],⟨fun cs di=>hlen.1 cs (List.mem_of_mem_eraseIdx di),Gc hlen.2 gC⟩,fun q cs hq=>?_⟩
    simp only[dj,List.getElem?_eraseIdx]at hq
    split at hq
    ·rename_i dV
     obtain⟨en,kv,vv,q1,q2,q3,q4,q5⟩:=hM q cs hq
     exact⟨en,kv,vv,by rw[he2,List.getElem?_eraseIdx,if_pos dV];simpa using q1,q2,q3,hr _ _ q4,hr _ _ q5⟩
    ·rename_i dV
     obtain⟨en,kv,vv,q1,q2,q3,q4,q5⟩:=hM (q+1) cs hq
     exact⟨en,kv,vv,by rw[he2,List.getElem?_eraseIdx,if_neg dV];simpa using q1,q2,q3,hr _ _ q4,hr _ _ q5⟩
 ·cases hv
end
end Go.Proofs.YtgoljkjaameagaaGreat.V
