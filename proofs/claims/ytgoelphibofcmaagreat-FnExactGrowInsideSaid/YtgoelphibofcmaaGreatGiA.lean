/- A small language in which the program's functions are read by value: its values, its operations, its code, and how the program's code is brought into it. -/
import Derived.WalkKit
import Derived.WalkSpells
import Derived.WalkLawsBesides
import Derived.Lib.Hide
import Derived.Great.BuildSlice
import Derived.Conc.LoneCalls
import Derived.MapKept
import Derived.WideKeyRuns
set_option linter.unusedVariables false
set_option linter.unusedSimpArgs false
set_option maxRecDepth 100000
set_option maxHeartbeats 16000000
namespace Go.Proofs.YtgoelphibofcmaaGreat.V
open Go.RowKit
structure Id where
  site:Nat
  ck:Nat
  deriving DecidableEq,Repr
inductive TS where
  |tI|tB|tS
  deriving Repr,DecidableEq
structure MK where
  ka:Bool
  ts:List TS
  deriving Repr,DecidableEq
inductive AV where
  |int (k:IntKind) (n:Int)
  |bool (b:Bool)
  |str (s:ByteArray)
  |cm|gR|iW
  |sl (rows:List (List AV))
  |own (id:Id) (off len:Nat)
  |ptr (id:Id) (i off:Nat)
  |di (cs:List AV)
  |agg (cs:List AV)
  |gJ (vs:List AV)
  |fn (f:Nat) (cL:List AV)
  |map (id:Id) (m:MK)
  |jj
  |tY (f:Nat) (first:List AV)
  |rE (id:Id)
  deriving Inhabited
def AV.undef:AV:=.gJ []
def AV.cell:AV->Bool
  | .agg _| .gJ _=>false
  |_=>true
def AV.cells:AV->List AV
  | .agg cs=>cs
  |v=>[v]
inductive K where
  |int (k:IntKind) (n:Int)
  |bool (b:Bool)
  |str (l:List UInt8)
  |cm|gR|iW|jj
  deriving Repr,DecidableEq
def K.val:K->Value
  | .int k n=>.int k n
  | .bool b=>.bool b
  | .str l=>.string ⟨l.toArray⟩
  | .cm=>.slice none 0 0
  | .gR=>.pointer none
  | .iW=>.nilFunc
  | .jj=>.map none
def K.av:K->AV
  | .int k n=>.int k n
  | .bool b=>.bool b
  | .str l=>.str ⟨l.toArray⟩
  | .cm=>.cm
  | .gR=>.gR
  | .iW=>.iW
  | .jj=>.jj
def GA:Value->Option K
  | .int k n=>some (.int k n)
  | .bool b=>some (.bool b)
  | .string s=>some (.str s.data.toList)
  | .slice none 0 0=>some .cm
  | .pointer none=>some .gR
  | .nilFunc=>some .iW
  | .map none=>some .jj
  |_=>none
inductive O where
  |t (n:Nat)
  |k (c:K)
  |ka (cs:List K)
  |f (n:Nat)
  deriving Repr,DecidableEq
inductive MQ where
  |new (m:MK)
  |look (m:MK) (ok:Bool) (zero:K)
  |len (m:MK)
  deriving Repr,DecidableEq
inductive MW where
  |set (m:MK)
  |del (m:MK)
  deriving Repr,DecidableEq
inductive gz where
  |dm (x:O)
  |pick (c a b:O)
  |new (zero:List K)
  |box (x:O)
  |build (zero:List K) (parts:List (Nat×Nat×O))
  |lS (sz len:Nat) (parts:List O)
  |load (agg:Bool) (n:Nat) (a:O)
  |store (n:Nat) (a x:O)
  |AL (x:O)
  |bin (op:BinOp) (k:IntKind) (x y:O)
  |sh (left:Bool) (x y:O)
  |K4 (op:BinOp) (x y:O)
  |NM (neg:Bool) (t:TS) (x y:O)
  |Sc (neg:Bool) (ts:List TS) (x y:O)
  |Qw (neg LO:Bool) (x:O)
  |Sd (neg:Bool) (x:O)
  |not (x:O)
  |neg (x:O)
  |conv (k:IntKind) (x:O)
  |EP (x:O)
  |slice (sz:Nat) (x:O) (lo hi:Option O)
  |Ar (x:O) (lo hi:Option O)
  |fR (off:Nat) (x:O)
  |field (agg:Bool) (off n:Nat) (x:O)
  |dJ (sz:Nat) (x i:O)
  |LJ (len sz:Nat) (x i:O)
  |LL (x i:O)
  |eD (agg:Bool) (len n:Nat) (x i:O)
  |extract (i:Nat) (x:O)
  |len (x:O)
  |LR (x:O)
  |append (sz:Nat) (x y:O)
  |copy (sz:Nat) (x y:O)
  |clear (zero:List K) (x:O)
  |LY (f:Nat) (cL:List O)
  |LZ (f:Nat) (first:List O)
  |jX (zero:List K) (len cap:O)
  |call (f:Nat) (args:List O)
  |tK (x:O) (args:List O)
  |mq (q:MQ) (xs:List O)
  |mw (q:MW) (xs:List O)
  |Jt (x:O)
  |Jj (x:O)
  |snd (x y:O)
  |OY (x:O)
  |bad
  deriving Repr,DecidableEq
structure bj where
  dst:Option Nat
  op:gz
  guard:Option (Nat×Bool)
  site:Nat
  hid:List Nat
  deriving Repr,DecidableEq
def q (d:Nat) (op:gz) (s:Nat):bj:=⟨some d,op,none,s,[]⟩
inductive VC where
  |skip
  |eH (draw:Bool) (ops:List bj)
  |seq (a b:VC)
  |cond (c:O) (x y:VC)
  |block (id:Nat) (c:VC)
  |loop (c:VC)
  |exit (id:Nat)
  |ret
  |one (o:bj) (c:VC)
  |both (a b:VC)
  |loc (t s:Nat) (y:O) (c:VC)
  |NG (ops:List bj)
  deriving Repr,DecidableEq
inductive nK where
  |tmp (t:Nat)
  |cell (agg:Bool) (n:Nat) (t:Nat)
  deriving Repr,DecidableEq
structure AK where
  ntmps:Nat
  yV:Nat
  body:VC
  res:List nK
  deriving Repr,DecidableEq
def fI (P:Program) (f:Nat):Bool:=
  match P.funcs[f]? with
  |some fn=>fn.body.isSome&& !(fn.name== "runtime.NumGoroutine")
  |none=>false
def cO (P:Program):Operand->Option O
  | .tmp t=>some (.t t)
  | .const (.agg cs)=>(cs.toList.mapM GA).map O.ka
  | .const v=>(GA v).map O.k
  | .global _=>none
  | .func f=>if fI P f then some (.f f)else none
def jH (P:Program) (t:TypeId):Option (List K):=
  match P.info? t with
  |some i=>match i.zero with
    |some v=>if v.cells.size=i.size then v.cells.toList.mapM GA else none
    |none=>none
  |none=>none
def dY (P:Program) (t:TypeId):Option Nat:=(P.info? t).map (·.size)
def nR (P:Program) (t:TypeId):Option Bool:=
  match P.underlying t with
  |some (.struct _)|some (.array _ _)=>some true
  |some _=>some false
  |none=>none
inductive Tg where
  |sc (t:TS)|ag (ts:List TS)
  deriving Repr,DecidableEq
def fm (P:Program) (t:TypeId):Option TS:=
  match P.underlying t with
  |some .bool=>some .tB
  |some (.int _)=>some .tI
  |some .string=>some .tS
  |_=>none
def Dh (P:Program) (inner:List Field->Option (List TS)):Nat->List Field->Option (List TS)
  |_,[]=>some []
  |off,f::r=>
    if f.offset=off/\f.name≠ "_" then
      match fm P f.type with
      |some t=>if nR P f.type=some false then(Dh P inner (off+1) r).map (t::·)else none
      |none=>match P.underlying f.type with
        |some (.struct fs)=>if !P.stoodInHeld f.type then match inner fs.toList with
          |some ts=>if dY P f.type=some ts.length/\ts≠[]then(Dh P inner (off+ts.length) r).map (ts++·)else none
          |none=>none else none
        |_=>none
    else none
def eI (P:Program):Nat->Nat->List Field->Option (List TS)
  |0,_,[]=>some []
  |0,_,_::_=>none
  |d+1,off,fs=>Dh P (eI P d 0) off fs
def Tr (P:Program) (t:TypeId):Option Tg:=
  match fm P t with
  |some s=>some (.sc s)
  |none=>match P.underlying t with
    |some (.struct fs)=>if !P.stoodInHeld t&& !P.eqGuardType P.depth t then(eI P 4 0 fs.toList).map Tg.ag else none
    |_=>none
def sL (P:Program) (fs:Array Field):List (Nat×O)->Option (List (Nat×Nat×O))
  |[]=>some []
  |(i,x)::r=>match fs[i]? with
    |some f=>match dY P f.type with
      |some n=>(sL P fs r).map ((f.offset,n,x)::·)
      |none=>none
    |none=>none
def sO (P:Program) (ps:Array (Nat×Operand)):Option (List (Nat×O)):=ps.toList.mapM fun(i,x)=>(cO P x).map (i,·)
def rC (P:Program):Option Operand->Option (Option O)
  |none=>some none
  |some x=>(cO P x).map some
def sM (P:Program) (neg:Bool) (t:TypeId) (x y:Operand):Option gz:=
  match y with
  | .const (.slice none 0 0)=>match P.underlying t with
    |some (.slice _)=>(cO P x).map (gz.Qw neg false)
    |_=>none
  | .const .nilFunc=>match P.underlying t with
    |some (.func ..)=>(cO P x).map (gz.Qw neg true)
    |_=>none
  | .const (.pointer none)=>match P.underlying t with
    |some (.pointer _)=>(cO P x).map (gz.Sd neg)
    |_=>none
  |_=>match Tr P t with
    |some (.sc s)=>do pure (.NM neg s (<-cO P x) (<-cO P y))
    |some (.ag ts)=>do pure (.Sc neg ts (<-cO P x) (<-cO P y))
    |_=>none
def vG (P:Program) (op:BinOp) (t:TypeId) (x y:Operand):Option gz:=
  match op with
  | .eql=>sM P false t x y
  | .neq=>sM P true t x y
  | .shl=>do pure (.sh true (<-cO P x) (<-cO P y))
  | .shr=>do pure (.sh false (<-cO P x) (<-cO P y))
  |op=>match P.underlying t with
    |some (.int k)=>do pure (.bin op k (<-cO P x) (<-cO P y))
    |some .string=>do pure (.K4 op (<-cO P x) (<-cO P y))
    |_=>none
def sN (P:Program) (t:TypeId):Option (MK×K):=
  match P.underlying t with
  |some (.map k e)=>match nR P e,(P.info? e).bind (·.zero),fm P k,P.underlying k with
    |some false,some zv,some s,_=>(GA zv).map fun z=>(⟨false,[s]⟩,z)
    |some false,some zv,none,some (.struct fs)=>match eI P 4 0 fs.toList,GA zv with
      |some ts,some z=>if !P.stoodInHeld k/\fs.toList.all (fun f=>(fm P f.type).isSome)then some (⟨true,ts⟩,z)else none
      |_,_=>none
    |_,_,_,_=>none
  |_=>none
def nC (P:Program) (c:Call):Option gz:=
  match c.callee with
  | .builtin .len=>match c.args.toList,c.argTypes.toList with
    |[x],[t]=>match P.underlying t with
      |some (.slice _)=>(cO P x).map gz.len
      |some .string=>(cO P x).map gz.LR
      |some (.map _ _)=>match sN P t,cO P x with
        |some (m,_),some x=>some (.mq (.len m) [x])
        |_,_=>none
      |some (.chan _ _)=>(cO P x).map gz.Jj
      |_=>none
    |_,_=>none
  | .builtin .append=>match c.args.toList,c.argTypes.toList with
    |[x,y],[t,u]=>match P.underlying t with
      |some (.slice e)=>match dY P e,jH P e,P.info? e with
        |some (sz+1),some _,some i=>if i.bytes<=32768/\t=u then do pure (.append (sz+1) (<-cO P x) (<-cO P y))else none
        |_,_,_=>none
      |_=>none
    |_,_=>none
  | .builtin .clear=>match c.args.toList,c.argTypes.toList with
    |[x],[t]=>match P.underlying t with
      |some (.slice e)=>match dY P e,jH P e with
        |some (_+1),some z=>(cO P x).map (gz.clear z)
        |_,_=>none
      |_=>none
    |_,_=>none
  | .value (.func f)=>if fI P f then(c.args.toList.mapM (cO P)).map (gz.call f)else none
  | .value (.tmp t)=>(c.args.toList.mapM (cO P)).map (gz.tK (.t t))
  | .builtin .delete=>match c.args.toList,c.argTypes.toList with
    |[x,k],[t,_]=>match sN P t,cO P x,cO P k with
      |some (m,_),some x,some k=>some (.mw (.del m) [x,k])
      |_,_,_=>none
    |_,_=>none
  | .builtin .copy=>match c.args.toList,c.argTypes.toList with
    |[x,y],[t,_]=>match P.underlying t with
      |some (.slice e)=>match dY P e with
        |some (sz+1)=>do pure (.copy (sz+1) (<-cO P x) (<-cO P y))
        |_=>none
      |_=>none
    |_,_=>none
  |_=>none
def qV (P:Program) (o:Op):Option gz:=
  match o with
  | .move x| .assign x=>(cO P x).map gz.dm
  | .pick c a b=>do pure (.pick (<-cO P c) (<-cO P a) (<-cO P b))
  | .alloc e=>(jH P e).map gz.new
  | .box _ x=>(cO P x).map gz.box
  | .load t a=>do pure (.load (<-nR P t) (<-dY P t) (<-cO P a))
  | .store t a x=>do pure (.store (<-dY P t) (<-cO P a) (<-cO P x))
  | .nilCheck x=>(cO P x).map gz.AL
  | .binOp op t x y _=>vG P op t x y
  | .unOp .not _ x=>(cO P x).map gz.not
  | .unOp .neg _ x=>(cO P x).map gz.neg
  | .convert s d x=>match P.underlying s,P.underlying d with
    |some (.int _),some (.int k)=>(cO P x).map (gz.conv k)
    |some .string,some .string=>(cO P x).map gz.EP
    |_,_=>none
  | .slice t x lo hi none=>match P.underlying t with
    |some (.slice e)=>do
      pure (.slice (<-dY P e) (<-cO P x) (<-rC P lo) (<-rC P hi))
    |some .string=>do pure (.Ar (<-cO P x) (<-rC P lo) (<-rC P hi))
    |_=>none
  | .fieldAddr s x i=>match P.underlying s with
    |some (.struct fs)=>match fs[i]? with
      |some f=>match dY P f.type with
        |some (_+1)=>(cO P x).map (gz.fR f.offset)
        |_=>none
      |none=>none
    |_=>none
  | .field s x i=>match P.underlying s with
    |some (.struct fs)=>match fs[i]? with
      |some f=>do pure (.field (<-nR P f.type) f.offset (<-dY P f.type) (<-cO P x))
      |none=>none
    |_=>none
  | .indexAddr t x i=>match P.underlying t with
    |some (.slice e)=>match dY P e with
      |some (m+1)=>do pure (.dJ (m+1) (<-cO P x) (<-cO P i))
      |_=>none
    |some (.array len e)=>match dY P e with
      |some (m+1)=>do pure (.LJ len (m+1) (<-cO P x) (<-cO P i))
      |_=>none
    |_=>none
  | .index t x i=>match P.underlying t with
    |some .string=>do pure (.LL (<-cO P x) (<-cO P i))
    |some (.array len e)=>do pure (.eD (<-nR P e) len (<-dY P e) (<-cO P x) (<-cO P i))
    |_=>none
  | .extract x i=>(cO P x).map (gz.extract i)
  | .build t ps=>match P.underlying t with
    |some (.struct fs)=>
      match jH P t,sO P ps with
      |some z,some l=>
        if fs.all (fun f=>(P.info? f.type).isSome)then(sL P fs l).map (gz.build z)else none
      |_,_=>none
    |some (.array _ e)=>
      match jH P t,sO P ps,dY P e with
      |some z,some l,some n=>some (.build z (l.map fun(i,x)=>(i*n,n,x)))
      |_,_,_=>none
    |_=>none
  | .buildSlice t len ps=>match P.underlying t with
    |some (.slice e)=>match dY P e,jH P e,sO P ps with
      |some (sz+1),some _,some l=>
        if len*(sz+1)<=4096/\l.map (·.1)=List.range len then some (.lS (sz+1) len (l.map (·.2)))else none
      |_,_,_=>none
    |_=>none
  | .makeFunc (.func f) first cL=>
    if first= #[]/\fI P f then(cL.toList.mapM (cO P)).map (gz.LY f)else if cL= #[]/\fI P f then(first.toList.mapM (cO P)).map (gz.LZ f)else none
  | .makeSlice t l c=>match P.underlying t with
    |some (.slice e)=>match dY P e,jH P e,P.info? e with
      |some (_+1),some z,some i=>if i.bytes<=32768 then do pure (.jX z (<-cO P l) (<-cO P c))else none
      |_,_,_=>none
    |_=>none
  | .call c=>nC P c
  | .makeChan t n=>match P.underlying t with
    |some (.chan _ e)=>match P.info? e with
      |some i=>if i.bytes<=32768 then(cO P n).map gz.Jt else none
      |none=>none
    |_=>none
  | .send x y=>do pure (.snd (<-cO P x) (<-cO P y))
  | .recv t x false=>match P.underlying t with
    |some (.chan _ e)=>match (P.info? e).bind (·.zero)with
      |some _=>(cO P x).map gz.OY
      |none=>none
    |_=>none
  | .makeMap t none=>match sN P t with
    |some (m,_)=>some (.mq (.new m) [])
    |none=>none
  | .lookup t x k ok=>match sN P t,cO P x,cO P k with
    |some (m,z),some x,some k=>some (.mq (.look m ok z) [x,k])
    |_,_,_=>none
  | .mapUpdate t x k v| .insert t x k v=>match sN P t,cO P x,cO P k,cO P v with
    |some (m,_),some x,some k,some v=>some (.mw (.set m) [x,k,v])
    |_,_,_,_=>none
  | .makeInterface _ _=>some .bad
  | .panic _=>some .bad
  |_=>none
inductive Tf where
  |pure|look|make|write
  deriving DecidableEq,Repr
def gz.cls:gz->Tf
  | .new _| .box _| .lS .. | .jX .. | .mq (.new _) _| .Jt _=>.make
  | .load .. | .dJ .. | .slice .. | .call .. | .tK .. | .mq .. | .Jj _=>.look
  | .store .. | .append .. | .copy .. | .clear .. | .mw .. | .snd .. | .OY _=>.write
  |_=>.pure
def clash:Tf->Tf->Bool
  | .pure,_|_,.pure=>false
  | .write,_|_,.write=>true
  |_,_=>false
def jC (ops:Array Oper):Array Nat:=Region.before ops
def qO:gz->Bool:=fun o=>o.cls==.make||o.cls==.write
def gz.lT:gz->Bool
  | .call .. | .tK .. =>true
  |_=>false
def C7 (ops:Array Oper) (o:Oper):Option (Option (Nat×Bool)):=
  match o.guard with
  |none=>some none
  |some (i,b)=>match (ops[i]?).bind (·.dst)with
    |some t=>some (some (t,b))
    |none=>none
def kI (P:Program) (ops:Array Oper) (nt site0:Nat) (draw mk:Bool) (bs:Array Nat) (hidden:List (Nat×Bool)) (j:Nat) (o:Oper):Option bj:=do
  let v <-qV P o.op
  let g <-C7 ops o
  if (o.dst.all fun d=>decide (d<nt))then
    pure {dst:=o.dst,op:=v,guard:=g,site:=site0+j,hid:=if draw then(hidden.filter fun(i,m)=>m&& !(bs.getD j 0).testBit i&&(i !=j||mk&&v.lT)).map fun(i,_)=>site0+i else[]}
  else none
def allM {α:Type} (f:Nat->Oper->Option α):List Oper->Nat->Option (List α)
  |[],_=>some []
  |o::r,j=>do pure ((<-f j o)::(<-allM f r (j+1)))
def gS:O->List Nat
  | .t n=>[n]
  |_=>[]
def wR:Option O->List Nat
  |some x=>gS x
  |none=>[]
def gz.gI:gz->List Nat
  | .clear _ x| .dm x| .box x| .load _ _ x| .AL x| .Qw _ _ x| .Sd _ x| .not x| .neg x| .conv _ x| .EP x| .fR _ x| .field _ _ _ x| .extract _ x| .len x| .LR x| .Jt x| .Jj x| .OY x=>gS x
  | .pick c a b=>gS c++gS a++gS b
  | .new _| .bad=>[]
  | .build _ ps=>ps.flatMap fun(_,_,x)=>gS x
  | .lS _ _ ps=>ps.flatMap gS
  | .store _ a x| .snd a x=>gS a++gS x
  | .bin _ _ x y| .sh _ x y| .K4 _ x y| .NM _ _ x y| .Sc _ _ x y| .dJ _ x y| .LJ _ _ x y| .LL x y| .eD _ _ _ x y| .append _ x y| .copy _ x y| .jX _ x y=>gS x++gS y
  | .slice _ x lo hi| .Ar x lo hi=>gS x++wR lo++wR hi
  | .LY _ l| .LZ _ l| .call _ l| .mq _ l| .mw _ l=>l.flatMap gS
  | .tK x l=>gS x++l.flatMap gS
def bj.gI (v:bj):List Nat:=v.op.gI++(match v.guard with|some (t,_)=>[t]|none=>[])
def tz (x y:bj):Bool:=
  (match x.dst with
   |some d=> !y.gI.contains d&&y.dst !=some d
   |none=>true)&&
  (match y.dst with
   |some d=> !x.gI.contains d
   |none=>true)
def bj.makes (v:bj):Bool:=qO v.op||v.op.lT&&v.hid.contains v.site
def E0 (x y:bj):Bool:=
  tz x y&& !clash x.op.cls y.op.cls&&(!x.makes||y.hid.contains x.site)&&(!y.makes||x.hid.contains y.site)&&x.site !=y.site
def ET (ops:Array Oper):Bool:=ops.toList.zipIdx.all fun(o,j)=>o.after.all fun e=> !Region.binds .any e||decide (e.on<j)
def oH (ops:Array Oper) (vl:List bj) (bs:Array Nat):Bool:=
  ET ops&&vl.zipIdx.all fun(y,j)=>vl.zipIdx.all fun(x,i)=> !(decide (i<j))||(bs.getD j 0).testBit i||E0 x y
def rD (P:Program) (nt site0:Nat) (ops:Array Oper) (draw mk:Bool):Option (List bj):=
  let bs:=if draw then jC ops else #[]
  let hidden:=if draw then ops.toList.zipIdx.map fun(o,i)=>(i,((qV P o.op).map fun v=>qO v||mk&&v.lT).getD false)else[]
  match allM (kI P ops nt site0 draw mk bs hidden) ops.toList 0 with
  |some vl=>if !draw||oH ops vl bs then some vl else none
  |none=>none
def kU (v:bj):Bool:= !v.op.lT&&v.op.cls !=.write
def yv (x y:bj):Bool:=tz x y&&x.op.cls==.pure||E0 x y&&kU x&&kU y
def qv (ops:Array Oper) (vl:List bj) (bs:Array Nat) (listed:Array Bool) (i:Nat):Bool:=
  match vl[i]? with
  |some x=>(List.range ops.size).all fun j=>listed.getD j false||j==i||(bs.getD j 0).testBit i||(match vl[j]? with|some y=>yv x y|none=>false)
  |none=>false
def M8 (vl:List bj) (x:bj):Option (Nat×Nat×O):=
  match x.op,x.guard with
  | .append _ (.t t) y,none=>match vl.find? fun v=>v.dst==some t&&v.op.cls==.make with
    |some v=>some (t,v.site,y)
    |none=>none
  |_,_=>none
def EZ (s:Nat) (x y:bj):Bool:=tz x y&&kU y&&y.hid.contains s&&y.hid.contains x.site&&y.site !=s&&y.site !=x.site
def oK (ops:Array Oper) (vl:List bj) (bs:Array Nat) (listed:Array Bool) (i s:Nat):Bool:=
  match vl[i]? with
  |some x=>(List.range ops.size).all fun j=>listed.getD j false||j==i||(bs.getD j 0).testBit i||(match vl[j]? with|some y=>EZ s x y|none=>false)
  |none=>false
def OL (ops:Array Oper) (vl:List bj) (bs:Array Nat) (listed:Array Bool) (i:Nat):Option (Nat×Nat×Nat×O×bj):=
  match vl[i]? with
  |some x=>match M8 vl x with
    |some (t,s,y)=>if oK ops vl bs listed i s then some (i,t,s,y,x)else none
    |none=>none
  |none=>none
def Bc:List VC->Option VC
  |[]=>none
  |[c]=>some c
  |c::r=>(Bc r).map (VC.both c)
def xo (ops:Array Oper) (vl:List bj) (bs:Array Nat):Nat->Array Bool->Option VC
  |0,listed=>
    match Region.ready .any ops listed with
    |[]=>some (.eH false [])
    |_::_=>none
  |n+1,listed=>
    match Region.ready .any ops listed with
    |[]=>some (.eH false [])
    |r::rs=>let rdy:=r::rs
      match rdy.find? (qv ops vl bs listed)with
      |some i=>match vl[i]? with
        |some vo=>(xo ops vl bs n (listed.setIfInBounds i true)).map (VC.one vo)
        |none=>none
      |none=>match rdy.findSome? (OL ops vl bs listed)with
        |some (i,t,s,y,vo)=>(xo ops vl bs n (listed.setIfInBounds i true)).map fun c=>VC.loc t s y (.one vo c)
        |none=>match rdy.mapM fun i=>(vl[i]?).bind fun vo=>(xo ops vl bs n (listed.setIfInBounds i true)).map (VC.one vo)with
          |some l=>Bc l
          |none=>none
def M6:Op->Bool
  | .send .. | .recv .. =>true
  |_=>false
def Qo (P:Program) (nt site0:Nat) (ops:Array Oper) (draw:Bool) (mode:Nat):Option VC:=
  if draw&&mode==2 then
    match allM (kI P ops nt site0 true false (jC ops) (ops.toList.zipIdx.map fun(o,i)=>(i,((qV P o.op).map qO).getD false))) ops.toList 0 with
    |some vl=>xo ops vl (jC ops) ops.size (Array.replicate ops.size false)
    |none=>none
  else if !draw&&ops.any (fun o=>M6 o.op)then(rD P nt site0 ops false false).map VC.NG
  else(rD P nt site0 ops draw (mode==1)).map (VC.eH draw)
def wK (md:List (Nat×Nat)) (id:Nat):Nat:=
  match md with
  |[]=>0
  |(i,m)::r=>if i=id then m else wK r id
def jo (P:Program) (md:List (Nat×Nat)) (nt fid:Nat):Code->Option VC
  | .skip=>some .skip
  | .region id ops draw=>Qo P nt ((fid*1000+id)*1000) ops draw (wK md id)
  | .seq a b=>do pure (.seq (<-jo P md nt fid a) (<-jo P md nt fid b))
  | .cond c x y=>do pure (.cond (<-cO P c) (<-jo P md nt fid x) (<-jo P md nt fid y))
  | .block id c=>(jo P md nt fid c).map (VC.block id)
  | .loop c=>(jo P md nt fid c).map VC.loop
  | .exit id=>some (.exit id)
  | .ret=>some .ret
  |_=>none
def C8 (P:Program) (r:ResultVar):Option nK:=
  match r with
  | .tmp t=>some (.tmp t)
  | .cell a t=>do pure (.cell (<-nR P t) (<-dY P t) a)
def xK (P:Program) (f:Nat) (md:List (Nat×Nat)):Option AK:=
  match P.funcs[f]? with
  |some fn=>match fn.body with
    |some c=>do
      let b <-jo P md fn.ntmps f c
      let r <-fn.results.toList.mapM (C8 P)
      if fn.params.size+fn.nfree<=fn.ntmps then pure {ntmps:=fn.ntmps,yV:=fn.params.size+fn.nfree,body:=b,res:=r}else none
    |none=>none
  |none=>none
def mi (P:Program) (f:Nat):Option AK:=xK P f []
end Go.Proofs.YtgoelphibofcmaaGreat.V

namespace Go.Proofs.YtgoelphibofcmaaGreat.V
open Go.RowKit
structure Row where
 w:Bool
 sz:Nat
 rows:List (List AV)
abbrev Rows:=Id->Option Row
structure ar where
 get:Rows
 next:Nat
abbrev Env:=Nat->AV
def upd (env:Env):Option Nat->AV->Env
 |some d,v=>fun t=>if t=d then v else env t
 |none,_=>env
inductive Ex where
 |normal
 |exit (id:Nat)
 |ret
 deriving DecidableEq
def cQ (env:Env):O->AV
 | .t n=>env n
 | .k c=>c.av
 | .ka cs=>.agg (cs.map K.av)
 | .f n=>.fn n []
def bq (g:Rows) (id:Id) (r:Row):Rows:=fun i=>if i=id then some r else g i
def cu (g:Rows) (id:Id):Rows:=fun i=>if i=id then none else g i
def fW:List Nat->Nat->Rows->Rows
 |[],_,g=>g
 |h::t,n,g=>fun id=>if (h::t).contains id.site=true/\id.ck=n then none else g id
def ro (g:Rows):Rows:=fun id=>(g id).map fun r=>{r with w:=false}
def part (agg:Bool) (n:Nat) (cs:List AV):Option AV:=
 if agg then(if n<=cs.length then some (.agg (cs.take n))else none)else cs.head?
def rowAt (g:Rows) (id:Id) (i:Nat):Option (List AV):=(g id).bind (·.rows[i]?)
def ld (g:Rows) (agg:Bool) (n:Nat):AV->Option AV
 | .ptr id i off=>(rowAt g id i).bind fun cs=>part agg n (cs.drop off)
 | .di cs=>part agg n cs
 |_=>none
def dD:BinOp->IntKind->Int->Int->Option AV
 | .add,k,a,b=>some (.int k (k.wrap (a+b)))
 | .sub,k,a,b=>some (.int k (k.wrap (a-b)))
 | .mul,k,a,b=>some (.int k (k.wrap (a*b)))
 | .quo,k,a,b=>if b=0 then none else some (.int k (k.wrap (a.tdiv b)))
 | .rem,k,a,b=>if b=0 then none else some (.int k (a.tmod b))
 | .lss,_,a,b=>some (.bool (decide (a<b)))
 | .leq,_,a,b=>some (.bool (decide (a<=b)))
 | .gtr,_,a,b=>some (.bool (decide (b<a)))
 | .geq,_,a,b=>some (.bool (decide (b<=a)))
 | .and,k,a,b=>some (.int k (k.wrap (BitVec.ofInt k.bits a&&& BitVec.ofInt k.bits b).toNat))
 | .or,k,a,b=>some (.int k (k.wrap (BitVec.ofInt k.bits a|||BitVec.ofInt k.bits b).toNat))
 | .xor,k,a,b=>some (.int k (k.wrap (BitVec.ofInt k.bits a ^^^ BitVec.ofInt k.bits b).toNat))
 |_,_,_,_=>none
def ee (op:BinOp):AV->AV->Option AV
 | .int k a,.int k' b=>if k=k' then dD op k a b else none
 |_,_=>none
def ik (left:Bool):AV->AV->Option AV
 | .int k a,.int _ b=>if b<0 then none else some (.int k (if left then k.wrap (a*2 ^ min b.toNat k.bits)else a.fdiv (2 ^ min b.toNat k.bits)))
 |_,_=>none
def ev:BinOp->ByteArray->ByteArray->Option AV
 | .add,a,b=>if a.size+b.size<=9223372036854775807 then some (.str (a++b))else none
 | .lss,a,b=>some (.bool (Op.bytesLess a.toList b.toList))
 | .leq,a,b=>some (.bool (Op.bytesLess a.toList b.toList||(a.toList==b.toList)))
 | .gtr,a,b=>some (.bool !(Op.bytesLess a.toList b.toList||(a.toList==b.toList)))
 | .geq,a,b=>some (.bool !(Op.bytesLess a.toList b.toList))
 |_,_,_=>none
def dh (op:BinOp):AV->AV->Option AV
 | .str a,.str b=>ev op a b
 |_,_=>none
def fU:TS->AV->AV->Option Bool
 | .tI,.int k a,.int k' b=>if k=k' then some (decide (a=b))else none
 | .tB,.bool a,.bool b=>some (a==b)
 | .tS,.str a,.str b=>some (decide (a=b))
 |_,_,_=>none
def eX:List TS->List AV->List AV->Option Bool
 |[],[],[]=>some true
 |t::ts,a::r,b::s=>match fU t a b,eX ts r s with
  |some x,some y=>some (x&&y)
  |_,_=>none
 |_,_,_=>none
def dr (neg b:Bool):Bool:=if neg then !b else b
def dd:AV->Option Bool
 | .cm=>some true
 | .own _ _ _=>some false
 | .sl (_::_)=>some false
 |_=>none
def dc:AV->Option Bool
 | .iW=>some true
 | .fn _ _=>some false
 |_=>none
def Ko:AV->Option Bool
 | .gR=>some true
 | .ptr .. | .di _=>some false
 |_=>none
def ej (LO:Bool) (x:AV):Option Bool:=if LO then dc x else dd x
def dQ (len:Nat):Option AV->Option Nat
 |none=>some len
 |some (.int _ n)=>if 0<=n/\n<=len then some n.toNat else none
 |_=>none
def dR (h:Nat):Option AV->Option Nat
 |none=>some 0
 |some (.int _ n)=>if 0<=n/\n<=h then some n.toNat else none
 |_=>none
def bQ (g:Rows) (sz:Nat) (x:AV) (lo hi:Option AV):Option AV:=
 match x with
 | .cm=>(dQ 0 hi).bind fun h=>(dR h lo).map fun _=>.cm
 | .sl rows=>(dQ rows.length hi).bind fun h=>(dR h lo).bind fun l=>if ∀cs∈rows,cs.length=sz then some (.sl ((rows.drop l).take (h-l)))else none
 | .own id off len=>(g id).bind fun r=>(dQ len hi).bind fun h=>(dR h lo).bind fun l=>if r.sz=sz then some (.own id (off+l) (h-l))else none
 |_=>none
def bf (x:AV) (lo hi:Option AV):Option AV:=
 match x with
 | .str s=>(dQ s.size hi).bind fun h=>(dR h lo).map fun l=>.str (s.extract l h)
 |_=>none
def ED (off:Nat):AV->Option AV
 | .ptr id i o=>some (.ptr id i (o+off))
 | .di cs=>some (.di (cs.drop off))
 |_=>none
def bP (g:Rows) (sz:Nat):AV->AV->Option AV
 | .sl rows,.int _ n=>if 0<=n then(rows[n.toNat]?).bind fun cs=>if cs.length=sz then some (.di cs)else none else none
 | .own id off len,.int _ n=>if 0<=n/\n<len then(g id).bind fun r=>if r.sz=sz then some (.ptr id (off+n.toNat) 0)else none else none
 |_,_=>none
def cW (len sz:Nat):AV->AV->Option AV
 | .ptr id r off,.int _ n=>if 0<=n/\n<len then some (.ptr id r (off+n.toNat*sz))else none
 | .di cs,.int _ n=>if 0<=n/\n<len then some (.di (cs.drop (n.toNat*sz)))else none
 |_,_=>none
def cY:AV->AV->Option AV
 | .str s,.int _ n=>if 0<=n then(s[n.toNat]?).map fun b=>.int .u8 b.toNat else none
 |_,_=>none
def cX (agg:Bool) (len n:Nat):AV->AV->Option AV
 | .agg cs,.int _ i=>if 0<=i/\i<len then part agg n (cs.drop (i.toNat*n))else none
 |_,_=>none
def eh:AV->Option Nat
 | .cm=>some 0
 | .sl rows=>some rows.length
 | .own _ _ n=>some n
 |_=>none
def ek:AV->Option AV
 | .bool b=>some (.bool !b)
 |_=>none
def ei:AV->Option AV
 | .int k n=>some (.int k (k.wrap (0-n)))
 |_=>none
def cV (k:IntKind):AV->Option AV
 | .int _ n=>some (.int k (k.wrap n))
 |_=>none
def cj:AV->Option AV
 | .str s=>some (.str s)
 |_=>none
def de:AV->AV->AV->Option AV
 | .bool c,a,b=>some (if c then a else b)
 |_,_,_=>none
def ef:AV->Option AV
 | .ptr id i o=>some (.ptr id i o)
 | .di cs=>some (.di cs)
 |_=>none
def bK (agg:Bool) (off n:Nat):AV->Option AV
 | .agg cs=>if off+n<=cs.length then part agg n (cs.drop off)else none
 |_=>none
def aO (i:Nat):AV->Option AV
 | .gJ vs=>vs[i]?
 |_=>none
def da:AV->Option AV
 | .str s=>some (.int .i64 s.size)
 |_=>none
def rowOf (sz:Nat) (v:AV):Option (List AV):=if v.cells.length=sz/\v.cells.all AV.cell then some v.cells else none
def cR (v:AV):Option (List AV):=if v.cells.all AV.cell then some v.cells else none
def rowsOf (sz:Nat):List AV->Option (List (List AV))
 |[]=>some []
 |v::r=>(rowOf sz v).bind fun c=>(rowsOf sz r).map fun cs=>c::cs
def cG:List AV->List (Nat×Nat×AV)->Option (List AV)
 |cs,[]=>some cs
 |cs,(off,n,v)::r=>if v.cells.length=n/\off+n<=cs.length/\v.cells.all AV.cell then cG (cs.take off++v.cells++cs.drop (off+n)) r else none
def dE:Nat:=16777216
def ij (zero:List K):AV->AV->Option (Nat×Row)
 | .int _ l,.int _ c=>if 0<=l/\l<=c/\c<=dE then some (l.toNat,⟨true,zero.length,List.replicate l.toNat (zero.map K.av)⟩)else none
 |_,_=>none
def rX:Nat:=1000000000
def MK.ks (m:MK):Nat:=m.ts.length
def MK.pG (m:MK):Nat:=rX+m.ks
def AV.isAgg:AV->Bool
 | .agg _=>true
 |_=>false
def gi (m:MK) (key:List AV):List (List AV)->Nat->Option (Option Nat)
 |[],_=>some none
 |r::l,i=>match eX m.ts key (r.take m.ks)with
  |some true=>some (some i)
  |some false=>gi m key l (i+1)
  |none=>none
def dV (g:Rows) (m:MK):AV->Option (Id×Row)
 | .map id m'=>if m'=m then(g id).map fun r=>(id,r)else none
 |_=>none
def fM (m:MK) (k:AV) (rows:List (List AV)):Option (Option Nat):=if k.isAgg=m.ka/\k.cells.length=m.ks/\k.cells.all AV.cell then gi m k.cells rows 0 else none
def ec (m:MK) (z:K) (rows:List (List AV)):Option Nat->Option AV
 |some i=>(rows[i]?).bind fun cs=>cs[m.ks]?
 |none=>some z.av
def bD (q:MQ) (vs:List AV) (g:Rows) (id:Id):Option (AV×Option Row):=
 match q,vs with
 | .new m,[]=>some (.map id m,some ⟨true,m.pG,[]⟩)
 | .look m ok z,[x,k]=>(dV g m x).bind fun p=>(fM m k p.2.rows).bind fun fi=>(ec m z p.2.rows fi).map fun v=>(if ok then .gJ [v,.bool fi.isSome]else v,none)
 | .len m,[x]=>(dV g m x).map fun p=>(.int .i64 p.2.rows.length,none)
 |_,_=>none
def qu:Nat:=2000000000
def db:AV->Option Nat
 | .int _ n=>if 0<=n/\n<=1048576 then some n.toNat else none
 |_=>none
def cZ (g:Rows):AV->Option AV
 | .rE id=>(g id).map fun r=>.int .i64 r.rows.length
 |_=>none
def ep (g:Rows):AV->AV->Option Rows
 | .rE id,v=>(g id).bind fun r=>if r.w/\qu+r.rows.length<r.sz/\v.cell then some (bq g id {r with rows:=r.rows++[[v]]})else none
 |_,_=>none
def eo (g:Rows):AV->Option (AV×Rows)
 | .rE id=>(g id).bind fun r=>match r.rows with
  |[v]::rest=>if r.w then some (v,bq g id {r with rows:=rest})else none
  |_=>none
 |_=>none
def dM (rows:List (List AV)) (e:List AV):Option Nat->List (List AV)
 |some i=>rows.set i e
 |none=>rows++[e]
def dK (rows:List (List AV)):Option Nat->List (List AV)
 |some i=>rows.eraseIdx i
 |none=>rows
def bG (q:MW) (vs:List AV) (g:Rows):Option Rows:=
 match q,vs with
 | .set m,[x,k,v]=>(dV g m x).bind fun p=>(fM m k p.2.rows).bind fun fi=>if p.2.w/\v.cell/\v.isAgg=false then some (bq g p.1 {p.2 with rows:=dM p.2.rows (k.cells++[v]) fi})else none
 | .del m,[x,k]=>(dV g m x).bind fun p=>(fM m k p.2.rows).bind fun fi=>if p.2.w then some (bq g p.1 {p.2 with rows:=dK p.2.rows fi})else none
 |_,_=>none
def eP (o:gz) (ρ:O->AV) (g:Rows) (id:Id):Option (AV×Option Row):=
 match o with
 | .dm x=>some (ρ x,none)
 | .pick c a b=>(de (ρ c) (ρ a) (ρ b)).map (·,none)
 | .new zero=>some (.ptr id 0 0,some ⟨true,zero.length,[zero.map K.av]⟩)
 | .box x=>(cR (ρ x)).map fun cs=>(.ptr id 0 0,some ⟨true,cs.length,[cs]⟩)
 | .build zero parts=>(cG (zero.map K.av) (parts.map fun(o,n,x)=>(o,n,ρ x))).map fun cs=>(.agg cs,none)
 | .lS sz len parts=>(rowsOf sz (parts.map ρ)).map fun rs=>(.own id 0 len,some ⟨true,sz,rs⟩)
 | .load agg n a=>(ld g agg n (ρ a)).map (·,none)
 | .AL x=>(ef (ρ x)).map (·,none)
 | .bin op _ x y=>(ee op (ρ x) (ρ y)).map (·,none)
 | .sh left x y=>(ik left (ρ x) (ρ y)).map (·,none)
 | .K4 op x y=>(dh op (ρ x) (ρ y)).map (·,none)
 | .NM neg t x y=>(fU t (ρ x) (ρ y)).map fun b=>(.bool (dr neg b),none)
 | .Sc neg ts x y=>match ρ x,ρ y with
  | .agg xs,.agg ys=>(eX ts xs ys).map fun b=>(.bool (dr neg b),none)
  |_,_=>none
 | .Qw neg LO x=>(ej LO (ρ x)).map fun b=>(.bool (dr neg b),none)
 | .Sd neg x=>(Ko (ρ x)).map fun b=>(.bool (dr neg b),none)
 | .not x=>(ek (ρ x)).map (·,none)
 | .neg x=>(ei (ρ x)).map (·,none)
 | .conv k x=>(cV k (ρ x)).map (·,none)
 | .EP x=>(cj (ρ x)).map (·,none)
 | .slice sz x lo hi=>(bQ g sz (ρ x) (lo.map ρ) (hi.map ρ)).map (·,none)
 | .Ar x lo hi=>(bf (ρ x) (lo.map ρ) (hi.map ρ)).map (·,none)
 | .fR off x=>(ED off (ρ x)).map (·,none)
 | .field agg off n x=>(bK agg off n (ρ x)).map (·,none)
 | .dJ sz x i=>(bP g sz (ρ x) (ρ i)).map (·,none)
 | .LJ len sz x i=>(cW len sz (ρ x) (ρ i)).map (·,none)
 | .LL x i=>(cY (ρ x) (ρ i)).map (·,none)
 | .eD agg len n x i=>(cX agg len n (ρ x) (ρ i)).map (·,none)
 | .extract i x=>(aO i (ρ x)).map (·,none)
 | .len x=>(eh (ρ x)).map fun(n:Nat)=>(AV.int .i64 (n:Int),none)
 | .LR x=>(da (ρ x)).map (·,none)
 | .LY f cL=>some (.fn f (cL.map ρ),none)
 | .LZ f first=>some (.tY f (first.map ρ),none)
 | .jX zero l c=>(ij zero (ρ l) (ρ c)).map fun(n,r)=>(.own id 0 n,some r)
 | .mq q xs=>bD q (xs.map ρ) g id
 | .Jt x=>(db (ρ x)).map fun n=>(.rE id,some ⟨true,qu+n,[]⟩)
 | .Jj x=>(cZ g (ρ x)).map (·,none)
 |_=>none
def bw (g:Rows):AV->Option (List (List AV))
 | .cm=>some []
 | .sl rows=>some rows
 | .own id off len=>(g id).bind fun r=>if off+len<=r.rows.length then some ((r.rows.drop off).take len)else none
 |_=>none
def cK (cs:List AV) (off:Nat) (xs:List AV):List AV:=cs.take off++xs++cs.drop (off+xs.length)
def bU (g:Rows) (n:Nat) (v:AV):AV->Option Rows
 | .ptr id i off=>(g id).bind fun r=>(r.rows[i]?).bind fun cs=>
  if r.w/\v.cells.length=n/\v.cells.all AV.cell/\off+n<=cs.length then some (bq g id {r with rows:=r.rows.set i (cK cs off v.cells)})else none
 |_=>none
def aY (g:Rows) (id:Id) (sz:Nat) (x:AV) (ys:List (List AV)):Option (AV×Rows):=
 match x with
 | .cm=>match ys with
  |[]=>some (.cm,g)
  |y::r=>if (y::r).length<=dE/\(y::r).all (fun c=>c.length==sz&&c.all AV.cell)then some (.own id 0 (y::r).length,bq g id ⟨true,sz,y::r⟩)else none
 | .own i 0 len=>(g i).bind fun r=>
  if r.w/\r.sz=sz/\len=r.rows.length/\len+ys.length<=dE/\ys.all (fun c=>c.length==sz&&c.all AV.cell)then some (.own id 0 (len+ys.length),bq (cu g i) id ⟨true,sz,r.rows++ys⟩)else none
 |_=>none
def FG (g:Rows) (sz:Nat) (x:AV) (ys:List (List AV)):Option (AV×Rows):=
 match x with
 | .own i off len=>(g i).bind fun r=>
  if r.w/\r.sz=sz/\off+len<=r.rows.length/\ys.all (fun c=>c.length==sz&&c.all AV.cell)then
   some (.int .i64 (min ys.length len:Nat),bq g i {r with rows:=r.rows.take off++ys.take (min ys.length len)++r.rows.drop (off+min ys.length len)})else none
 |_=>none
def bJ (g:Rows) (zero:List K) (x:AV):Option Rows:=
 match x with
 | .cm=>some g
 | .own i off len=>(g i).bind fun r=>
  if r.w/\r.sz=zero.length/\off+len<=r.rows.length then
   some (bq g i {r with rows:=r.rows.take off++List.replicate len (zero.map K.av)++r.rows.drop (off+len)})else none
 |_=>none
def ga (o:gz) (ρ:O->AV) (g:Rows) (id:Id):Option (AV×Rows):=
 match o with
 | .store n a x=>(bU g n (ρ x) (ρ a)).map fun g'=>(.undef,g')
 | .append sz x y=>(bw g (ρ y)).bind fun ys=>aY g id sz (ρ x) ys
 | .copy sz x y=>(bw g (ρ y)).bind fun ys=>FG g sz (ρ x) ys
 | .clear zero x=>(bJ g zero (ρ x)).map fun g'=>(.undef,g')
 | .mw q xs=>(bG q (xs.map ρ) g).map fun g'=>(.undef,g')
 |_=>none
def vH:AV->List AV->Option (Nat×List AV)
 | .fn f cL,l=>some (f,l++cL)
 | .tY f first,l=>some (f,first++l)
 |_,_=>none
abbrev fG:=Nat->List AV->ar->(AV->ar->Prop)->Prop
mutual
def fz (g:Rows):Nat->AV->Option AV
 |0,_=>none
 |n+1,a=>match a with
  | .own id off len=>match g id with
   |some r=>if r.w then(if off+len<=r.rows.length then(ea g n ((r.rows.drop off).take len)).map AV.sl else none)else none
   |none=>none
  | .ptr id i off=>match g id with
   |some r=>if r.w then(match r.rows[i]? with
    |some cs=>(cN g n (cs.drop off)).map AV.di
    |none=>none)else none
   |none=>none
  | .agg cs=>(cN g n cs).map AV.agg
  | .gJ vs=>(cN g n vs).map AV.gJ
  | .fn f cL=>if cL.all AV.cell then(cN g n cL).map (AV.fn f)else none
  | .map _ _| .tY _ _| .rE _=>none
  |v=>some v
 termination_by n _=>(n,0)
def cN (g:Rows):Nat->List AV->Option (List AV)
 |n,[]=>some []
 |n,a::r=>match fz g n a with
  |some b=>(cN g n r).map (b::·)
  |none=>none
 termination_by n l=>(n,l.length+1)
def ea (g:Rows):Nat->List (List AV)->Option (List (List AV))
 |n,[]=>some []
 |n,c::r=>match cN g n c with
  |some b=>(ea g n r).map (b::·)
  |none=>none
 termination_by n l=>(n,(l.map (fun c=>c.length+2)).sum+1)
 decreasing_by all_goals simp_wf;try omega
end
mutual
def gx (g:Rows):Nat->AV->Option AV
 |0,_=>none
 |n+1,a=>match a with
  | .own id off len=>match g id with
   |some r=>if r.w then(if off+len<=r.rows.length then(ib g n ((r.rows.drop off).take len)).map AV.sl else none)else none
   |none=>none
  | .ptr id i off=>match g id with
   |some r=>if r.w then(match r.rows[i]? with
    |some cs=>(er g n (cs.drop off)).map AV.di
    |none=>none)else none
   |none=>none
  | .agg cs=>(er g n cs).map AV.agg
  | .gJ vs=>(er g n vs).map AV.gJ
  | .int k m=>some (.int k m)
  | .bool b=>some (.bool b)
  | .str s=>some (.str s)
  | .cm=>some .cm
  | .gR=>some .gR
  | .iW=>some .iW
  | .jj=>some .jj
  |_=>none
 termination_by n _=>(n,0)
def er (g:Rows):Nat->List AV->Option (List AV)
 |n,[]=>some []
 |n,a::r=>match gx g n a with
  |some b=>(er g n r).map (b::·)
  |none=>none
 termination_by n l=>(n,l.length+1)
def ib (g:Rows):Nat->List (List AV)->Option (List (List AV))
 |n,[]=>some []
 |n,c::r=>match er g n c with
  |some b=>(ib g n r).map (b::·)
  |none=>none
 termination_by n l=>(n,(l.map (fun c=>c.length+2)).sum+1)
 decreasing_by all_goals simp_wf;try omega
end
def dL (g:Rows):Rows:=fun id=>(g id).map fun r=>{r with w:=true}
def PC (X:fG) (f:Nat) (args:List AV) (σ:ar) (K:AV->Prop):Prop:=
 X f args ⟨ro σ.get,σ.next⟩ fun r σ'=>∃r',fz σ'.get 6 r=some r'/\K r'
def PCv (X:fG) (f:Nat) (args:List AV) (σ:ar) (K:AV->Prop):Prop:=
 ∃eE,cN (dL σ.get) 6 args=some eE/\X f eE ⟨fun _=>none,σ.next⟩ fun r σ'=>∃r',gx σ'.get 6 r=some r'/\K r'
def gy (X:fG) (f:Nat) (args:List AV) (σ:ar) (K:AV->Prop):Prop:=PC X f args σ K∨PCv X f args σ K
def aM (g:Option (Nat×Bool)) (env:Env):Bool:=
 match g with
 |none=>true
 |some (t,b)=>match env t with
  | .bool c=>c==b
  |_=>false
def AV.plain:AV->Bool
 | .int .. | .bool _| .str _| .cm| .gR| .iW| .jj=>true
 |_=>false
def CM (X:fG) (f:Nat) (args:List AV) (σ:ar) (sz:Nat) (rows:List (List AV)):Prop:=
 (∀c∈rows,∀a∈c,a.plain=true)/\∃eE,cN (dL σ.get) 6 args=some eE/\X f eE ⟨fun _=>none,σ.next⟩ fun r σ'=>∃id,r=.own id 0 rows.length/\σ'.get id=some ⟨true,sz,rows⟩
def cH (X:fG) (draw:Bool) (hid:List Nat) (site:Nat) (f:Nat) (args:List AV) (σ:ar) (next:AV->ar->Prop):Prop:=
 (∃r,gy X f args ⟨fW hid σ.next σ.get,σ.next+1⟩ (fun r'=>r'=r)/\next r σ)∨
 (draw=false/\X f args ⟨σ.get,σ.next+1⟩ next)∨
 (hid.contains site=true/\∃sz rows,CM X f args ⟨fW hid σ.next σ.get,σ.next+1⟩ sz rows/\next (.own ⟨site,σ.next⟩ 0 rows.length) ⟨bq σ.get ⟨site,σ.next⟩ ⟨true,sz,rows⟩,σ.next⟩)
def fF (X:fG) (draw:Bool) (o:bj) (env:Env) (σ:ar) (next:AV->ar->Prop):Prop:=
 match o.op with
 | .call f args=>cH X draw o.hid o.site f (args.map (cQ env)) σ next
 | .tK x args=>match cQ env x with
  | .fn f cL=>cH X draw o.hid o.site f (args.map (cQ env)++cL) σ next
  | .tY f first=>cH X draw o.hid o.site f (first++args.map (cQ env)) σ next
  |_=>False
 | .store .. | .append .. | .copy .. | .clear .. | .mw .. =>match ga o.op (cQ env) σ.get ⟨o.site,σ.next⟩with
  |some (v,g)=>next v ⟨g,σ.next⟩
  |none=>False
 |_=>match eP o.op (cQ env) (fW o.hid σ.next σ.get) ⟨o.site,σ.next⟩with
  |some (v,some r)=>next v ⟨bq σ.get ⟨o.site,σ.next⟩ r,σ.next⟩
  |some (v,none)=>next v σ
  |none=>False
def wpOps (X:fG) (draw:Bool):List bj->(Env->ar->Prop)->Env->ar->Prop
 |[],K,env,σ=>K env ⟨σ.get,σ.next+1⟩
 |o::r,K,env,σ=>
  if aM o.guard env then fF X draw o env σ fun v σ'=>wpOps X draw r K (upd env o.dst v) σ'
  else wpOps X draw r K (upd env o.dst .undef) σ
def cF:List bj->(Env->ar->Prop)->Env->ar->Prop
 |[],K,env,σ=>K env ⟨σ.get,σ.next+1⟩
 |o::r,K,env,σ=>o.guard=none/\match o.op with
  | .snd x y=>match ep σ.get (cQ env x) (cQ env y)with
   |some g=>cF r K (upd env o.dst .undef) ⟨g,σ.next⟩
   |none=>False
  | .OY x=>match eo σ.get (cQ env x)with
   |some (v,g)=>cF r K (upd env o.dst v) ⟨g,σ.next⟩
   |none=>False
  |op=>match eP op (cQ env) σ.get ⟨o.site,σ.next⟩with
   |some (v,none)=>cF r K (upd env o.dst v) σ
   |_=>False
def dn (next:Env->ar->Prop) (Q:Ex->Env->ar->Prop):Ex->Env->ar->Prop
 | .normal=>next
 |e=>Q e
def aZ (id:Nat) (Q:Ex->Env->ar->Prop):Ex->Env->ar->Prop
 | .exit jW=>if jW=id then Q .normal else Q (.exit jW)
 |e=>Q e
def Fu (W:(Ex->Env->ar->Prop)->Env->ar->Prop) (Q:Ex->Env->ar->Prop):Nat->Env->ar->Prop
 |0=>fun _ _=>False
 |n+1=>W (dn (Fu W Q n) Q)
def LS (t s:Nat) (y:O) (env:Env) (n:Nat):Prop:=(∃len,env t=.own ⟨s,n⟩ 0 len)/\∀id o l,cQ env y=.own id o l->id.ck≠n
def dG (X:fG):VC->(Ex->Env->ar->Prop)->Env->ar->Prop
 | .skip,Q=>Q .normal
 | .eH draw ops,Q=>wpOps X draw ops (Q .normal)
 | .seq a b,Q=>dG X a (dn (dG X b Q) Q)
 | .cond c x y,Q=>fun env σ=>match cQ env c with
  | .bool b=>if b then dG X x Q env σ else dG X y Q env σ
  |_=>False
 | .block id c,Q=>dG X c (aZ id Q)
 | .loop c,Q=>fun env σ=>∃n,Fu (dG X c) Q n env σ
 | .exit id,Q=>Q (.exit id)
 | .ret,Q=>Q .ret
 | .one o c,Q=>fun env σ=>if aM o.guard env then fF X false o env σ fun v σ'=>dG X c Q (upd env o.dst v) σ' else dG X c Q (upd env o.dst .undef) σ
 | .both a b,Q=>fun env σ=>dG X a Q env σ/\dG X b Q env σ
 | .loc t s y c,Q=>fun env σ=>LS t s y env σ.next/\dG X c Q env σ
 | .NG ops,Q=>cF ops (Q .normal)
def iq (env:Env) (g:Rows):nK->Option AV
 | .tmp t=>some (env t)
 | .cell agg n t=>ld g agg n (env t)
def ft (env:Env) (g:Rows):List nK->Option (List AV)
 |[]=>some []
 |r::l=>(iq env g r).bind fun v=>(ft env g l).map (v::·)
def fq:List AV->AV
 |[v]=>v
 |l=>.gJ l
def cz (args:List AV):Env:=fun t=>args.getD t .undef
def kC (res:List nK) (K:AV->ar->Prop):Ex->Env->ar->Prop
 | .exit _,_,_=>False
 |_,env,σ=>∃vs,ft env σ.get res=some vs/\K (fq vs) σ
end Go.Proofs.YtgoelphibofcmaaGreat.V

namespace Go.Proofs.YtgoelphibofcmaaGreat.V
open Go.RowKit
inductive jF (P:Program) (w:World) (D:Nat->Prop):AV->Value->Prop
 |int (k n):jF P w D (.int k n) (.int k n)
 |bool (b):jF P w D (.bool b) (.bool b)
 |str (s):jF P w D (.str s) (.string s)
 |cm:jF P w D .cm (.slice none 0 0)
 |gR:jF P w D .gR (.pointer none)
 |iW:jF P w D .iW .nilFunc
 |AU (a c):c<=maxLen->jF P w D (.sl []) (.slice a 0 c)
 |sl (rows b o n c sz) (vs:Nat->Nat->Value):rows.length=n->n<=c->c<=maxLen->D b->(∀cs∈rows,cs.length=sz)->(∀cs∈rows,∀a∈cs,a.cell=true)->
   (∀i j,i<n->j<sz->w.cell? ⟨b,o+(i*sz+j),none⟩=some (vs i j))->
   (∀i j cs a,rows[i]? =some cs->cs[j]? =some a->jF P w D a (vs i j))->jF P w D (.sl rows) (.slice (some ⟨b,o,none⟩) n c)
 |di (cs b o) (vs:Nat->Value):D b->(∀a∈cs,a.cell=true)->(∀j,j<cs.length->w.cell? ⟨b,o+j,none⟩=some (vs j))->
   (∀j a,cs[j]? =some a->jF P w D a (vs j))->jF P w D (.di cs) (.pointer (some ⟨b,o,none⟩))
 |agg (cs) (vs:Array Value) (f:Nat->Value):vs.size=cs.length->(∀a∈cs,a.cell=true)->(∀j,j<cs.length->vs[j]? =some (f j))->(∀j a,cs[j]? =some a->jF P w D a (f j))->jF P w D (.agg cs) (.agg vs)
 |fn (f cL) (vs:Array Value) (g:Nat->Value):fI P f=true->vs.size=cL.length->(∀j,j<cL.length->vs[j]? =some (g j))->(∀j a,cL[j]? =some a->jF P w D a (g j))->jF P w D (.fn f cL) (.func (.func f) #[] vs)
 |jj:jF P w D .jj (.map none)
inductive BK where
 |map (m:MK)
 |chan (cap:Nat)
structure sC where
 b:Nat
 sz:Nat
 C:Nat
 k:Option BK
abbrev Names:=Id->Option sC
inductive cI (P:Program) (w:World) (D:Nat->Prop) (ι:Names):AV->Value->Prop
 |eM (a v):jF P w D a v->cI P w D ι a v
 |own (id off len o cap B):ι id=some B->B.k=none->len<=cap->(cap=0∨o=off*B.sz)->(off+cap)*B.sz<=B.C->cap<=maxLen->cI P w D ι (.own id off len) (.slice (some ⟨B.b,o,none⟩) len cap)
 |ptr (id i off B):ι id=some B->B.k=none->cI P w D ι (.ptr id i off) (.pointer (some ⟨B.b,i*B.sz+off,none⟩))
 |agg (cs) (vs:Array Value) (f:Nat->Value):vs.size=cs.length->(∀a∈cs,a.cell=true)->(∀j,j<cs.length->vs[j]? =some (f j))->(∀j a,cs[j]? =some a->cI P w D ι a (f j))->cI P w D ι (.agg cs) (.agg vs)
 |gJ (cs) (vs:Array Value) (f:Nat->Value):vs.size=cs.length->(∀j,j<cs.length->vs[j]? =some (f j))->(∀j a,cs[j]? =some a->cI P w D ι a (f j))->cI P w D ι (.gJ cs) (.tuple vs)
 |fn (f cL) (vs:Array Value) (g:Nat->Value):fI P f=true->vs.size=cL.length->(∀j,j<cL.length->vs[j]? =some (g j))->(∀j a,cL[j]? =some a->cI P w D ι a (g j))->cI P w D ι (.fn f cL) (.func (.func f) #[] vs)
 |rE (id c B):ι id=some B->B.k=some (.chan c)->cI P w D ι (.rE id) (.chan (some B.b))
 |map (id m B):ι id=some B->B.k=some (.map m)->cI P w D ι (.map id m) (.map (some B.b))
 |tY (f cL) (vs:Array Value) (g:Nat->Value):fI P f=true->vs.size=cL.length->(∀j,j<cL.length->vs[j]? =some (g j))->(∀j a,cL[j]? =some a->cI P w D ι a (g j))->cI P w D ι (.tY f cL) (.func (.func f) vs #[])
variable {P:Program} {w w':World} {D D':Nat->Prop} {ι ι':Names}
theorem jF.frame (hD:∀b,D b->w'.heap[b]? =w.heap[b]?) (hs:∀b,D b->D' b) {a:AV} {v:Value} (h:jF P w D a v):jF P w' D' a v:=by
 induction h with
 |int k n=>exact .int k n
 |bool b=>exact .bool b
 |str s=>exact .str s
 |cm=>exact .cm
 |gR=>exact .gR
 |iW=>exact .iW
 |jj=>exact .jj
 |AU a c h=>exact .AU a c h
 |sl rows b o n c sz vs h1 h2 h3 h4 h5 h5' h6 _ ih=>exact .sl rows b o n c sz vs h1 h2 h3 (hs b h4) h5 h5' (fun i j hi hj=>(World.cell?_of_block (hD b h4)).trans (h6 i j hi hj)) ih
 |di cs b o vs h1 NT h2 _ ih=>exact .di cs b o vs (hs b h1) NT (fun j hj=>(World.cell?_of_block (hD b h1)).trans (h2 j hj)) ih
 |agg cs vs f h1 h2 h3 _ ih=>exact .agg cs vs f h1 h2 h3 ih
 |fn f cL vs g h1 h2 h3 _ ih=>exact .fn f cL vs g h1 h2 h3 ih
theorem cI.frame (hD:∀b,D b->w'.heap[b]? =w.heap[b]?) (hs:∀b,D b->D' b) (hι:∀id B,ι id=some B->ι' id=some B) {a:AV} {v:Value} (h:cI P w D ι a v):cI P w' D' ι' a v:=by
 induction h with
 |eM a v h=>exact .eM a v (h.frame hD hs)
 |map id m B h1 h2=>exact .map id m B (hι _ _ h1) h2
 |rE id c B h1 h2=>exact .rE id c B (hι _ _ h1) h2
 |own id off len o cap B h1 h2 h3 h4 h5 h6=>exact .own id off len o cap B (hι _ _ h1) h2 h3 h4 h5 h6
 |ptr id i off B h1 h2=>exact .ptr id i off B (hι _ _ h1) h2
 |agg cs vs f h1 h2 h3 _ ih=>exact .agg cs vs f h1 h2 h3 ih
 |gJ cs vs f h1 h2 _ ih=>exact .gJ cs vs f h1 h2 ih
 |fn f cL vs g h1 h2 h3 _ ih=>exact .fn f cL vs g h1 h2 h3 ih
 |tY f cL vs g h1 h2 h3 _ ih=>exact .tY f cL vs g h1 h2 h3 ih
theorem cI.undef:cI P w D ι .undef Go.undef:=.gJ [] #[] (fun _=>Go.undef) rfl (fun j hj=>by simp at hj) (fun j a h=>by simp at h)
theorem wZ (c:K):cI P w D ι c.av c.val:=by
 cases c with
 |int k n=>exact .eM _ _ (.int k n)
 |bool b=>exact .eM _ _ (.bool b)
 |str l=>exact .eM _ _ (.str _)
 |cm=>exact .eM _ _ .cm
 |gR=>exact .eM _ _ .gR
 |iW=>exact .eM _ _ .iW
 |jj=>exact .eM _ _ .jj
theorem K.mU (c:K):c.av.cell=true:=by cases c<;>rfl
theorem zU {v:Value} {c:K} (h:GA v=some c):v=c.val:=by
 unfold GA at h
 split at h<;>simp at h<;>subst h<;>rfl
theorem cI.Bg {a:AV} {v:Value} (h:cI P w D ι a v) (hc:a.cell=true):v.cells= #[v]/\(∀vs,v≠.agg vs)/\(∀vs,v≠.tuple vs):=by
 cases h with
 |eM a v h=>cases h<;>simp_all [AV.cell,Value.cells]
 |own=>simp[Value.cells]
 |map=>simp[Value.cells]
 |rE=>simp[Value.cells]
 |ptr=>simp[Value.cells]
 |agg=>simp[AV.cell]at hc
 |gJ=>simp[AV.cell]at hc
 |fn=>simp[Value.cells]
 |tY=>simp[Value.cells]
theorem cI.cells {a:AV} {v:Value} (h:cI P w D ι a v) (ha:a.cells.all AV.cell=true):v.cells.size=a.cells.length/\∃f:Nat->Value,(∀j,j<a.cells.length->v.cells[j]? =some (f j))/\∀j x,a.cells[j]? =some x->cI P w D ι x (f j):=by
 have one:∀(a:AV) (v:Value),a.cell=true->a.cells=[a]->cI P w D ι a v->v.cells.size=a.cells.length/\∃f:Nat->Value,(∀j,j<a.cells.length->v.cells[j]? =some (f j))/\∀j x,a.cells[j]? =some x->cI P w D ι x (f j):=by
  intro a v hc du h
  obtain⟨h1,_,_⟩:=h.Bg hc
  rw[h1,du]
  refine⟨rfl,fun _=>v,fun j hj=>?_,fun j x hx=>?_⟩
  ·have:j=0:=by simp at hj;omega
   subst this;rfl
  ·cases j with
   |zero=>simp at hx;subst hx;exact h
   |succ j=>simp at hx
 cases h with
 |eM a v h=>
  cases h with
  |agg cs vs f h1 h2 h3 h4=>exact⟨h1,f,h3,fun j x hx=>.eM _ _ (h4 j x hx)⟩
  |_=>exact one _ _ rfl rfl (.eM _ _ (by constructor<;>assumption))
 |own id off len o cap B h1 h2 h3 h4 h5 h6=>exact one _ _ rfl rfl (.own id off len o cap B h1 h2 h3 h4 h5 h6)
 |ptr id i off B h1 h2=>exact one _ _ rfl rfl (.ptr id i off B h1 h2)
 |map id m B h1 h2=>exact one _ _ rfl rfl (.map id m B h1 h2)
 |rE id c B h1 h2=>exact one _ _ rfl rfl (.rE id c B h1 h2)
 |agg cs vs f h1 h2 h3 h4=>exact⟨h1,f,h3,h4⟩
 |gJ cs vs f h1 h2 h3=>simp[AV.cells,AV.cell]at ha
 |fn f cL vs g h1 h2 h3 h4=>exact one _ _ rfl rfl (.fn f cL vs g h1 h2 h3 h4)
 |tY f cL vs g h1 h2 h3 h4=>exact one _ _ rfl rfl (.tY f cL vs g h1 h2 h3 h4)
structure lv (P:Program) (w:World) (D:Nat->Prop) (ι:Names) (B:sC) (r:Row):Prop where
 sz:B.sz=r.sz
 xH:∃cells T,w.heap[B.b]? =some (.cells cells T (0,0))/\cells.size=B.C
 fits:r.rows.length*r.sz<=B.C
 len:∀cs∈r.rows,cs.length=r.sz
 flat:∀cs∈r.rows,∀a∈cs,a.cell=true
 at_:∀i j cs a,r.rows[i]? =some cs->cs[j]? =some a->∃v,w.cell? ⟨B.b,i*r.sz+j,none⟩=some v/\cI P w D ι a v
def KV (es:Array MapEntry) (clock:Nat):Prop:=(∀x∈es.toList,x.born<clock)/\(es.toList.map (·.born)).Nodup
def MD (P:Program) (w:World) (D:Nat->Prop) (ι:Names) (B:sC) (m:MK) (r:Row):Prop:=
 ∃(es:Array MapEntry) (clock:Nat),w.heap[B.b]? =some (.map es clock)/\es.size=r.rows.length/\((∀cs∈r.rows,cs.length=m.ks+1)/\KV es clock)/\
  ∀(i:Nat) (cs:List AV),r.rows[i]? =some cs->∃(e:MapEntry) (kv vv:AV),es[i]? =some e/\part m.ka m.ks cs=some kv/\cs[m.ks]? =some vv/\cI P w D ι kv e.key/\cI P w D ι vv e.val
def HI (P:Program) (w:World) (D:Nat->Prop) (ι:Names) (B:sC) (c:Nat) (r:Row):Prop:=
 ∃(buf:Array Value) (s q:Nat),w.heap[B.b]? =some (.chan c buf false s q false)/\buf.size=r.rows.length/\
  ∀(i:Nat) (cs:List AV),r.rows[i]? =some cs->∃(a:AV) (u:Value),cs=[a]/\buf[i]? =some u/\cI P w D ι a u
structure gM (P:Program) (w:World) (D:Nat->Prop) (ι:Names) (B:sC) (r:Row):Prop where
 sz:B.sz=r.sz
 flat:∀cs∈r.rows,∀a∈cs,a.cell=true
 row:B.k=none->lv P w D ι B r
 map:∀m,B.k=some (.map m)->r.sz=m.pG/\MD P w D ι B m r
 chan:∀c,B.k=some (.chan c)->r.sz=qu+c/\HI P w D ι B c r
theorem lv.obj {B:sC} {r:Row} (R:lv P w D ι B r) (h:B.k=none):gM P w D ι B r:=⟨R.sz,R.flat,fun _=>R,fun m hm=>(by rw[h]at hm;cases hm),fun m hm=>by rw[h]at hm;cases hm⟩
theorem gM.flag {B:sC} {r:Row} (R:gM P w D ι B r) (b:Bool):gM P w D ι B {r with w:=b}:=⟨R.sz,R.flat,fun h=>⟨R.sz,(R.row h).xH,(R.row h).fits,(R.row h).len,R.flat,(R.row h).at_⟩,R.map,R.chan⟩
theorem gM.cells {B:sC} {r:Row} (R:gM P w D ι B r) (h:r.sz<rX):B.k=none:=by
 cases hk:B.k with
 |none=>rfl
 |some m=>
  cases m with
  |map m=>
   have h1:=(R.map m hk).1
   unfold MK.pG at h1
   omega
  |chan c=>
   have h1:=(R.chan c hk).1
   unfold qu at h1
   unfold rX at h
   omega
theorem gM.L1 {B:sC} {r:Row} (R:gM P w D ι B r) {c:Array Value} {T:TypeId} {z:Nat×Nat} (h:w.heap[B.b]? =some (.cells c T z)):B.k=none:=by
 cases hk:B.k with
 |none=>rfl
 |some m=>
  cases m with
  |map m=>obtain⟨_,es,c,h3,_⟩:=R.map m hk;rw[h]at h3;cases h3
  |chan c=>obtain⟨_,buf,s,q,h3,_⟩:=R.chan c hk;rw[h]at h3;cases h3
theorem gM.lt {B:sC} {r:Row} (R:gM P w D ι B r):B.b<w.heap.size:=by
 cases h:B.k with
 |none=>
  obtain⟨c,T,h3,_⟩:=(R.row h).xH
  exact(Array.getElem?_eq_some_iff.1 h3).1
 |some m=>
  cases m with
  |map m=>obtain⟨_,es,c,h3,_⟩:=R.map m h;exact(Array.getElem?_eq_some_iff.1 h3).1
  |chan c=>obtain⟨_,buf,s,q,h3,_⟩:=R.chan c h;exact(Array.getElem?_eq_some_iff.1 h3).1
structure gw (P:Program) (hs:Nat) (D:Nat->Prop) (ι:Names) (g:Rows) (w:World):Prop where
 lo:hs<=w.heap.size
 dead:∀b,D b->b<w.heap.size
 row:∀id r,g id=some r->∃B,ι id=some B/\gM P w D ι B r/\(r.w=true->hs<=B.b)/\(r.w=true->¬D B.b)
 inj:∀id jW r r' B B',g id=some r->g jW=some r'->r.w=true->ι id=some B->ι jW=some B'->B.b=B'.b->id=jW
def Used (ι:Names) (n:Nat) (U:Nat->Prop):Prop:=∀id,ι id≠none->id.ck<n∨(id.ck=n/\U id.site)
structure Step (hs:Nat) (D:Nat->Prop) (ι:Names) (w:World) (D':Nat->Prop) (ι':Names) (w':World):Prop where
 below:Below hs w w'
 qL:∀b,D b->w'.heap[b]? =w.heap[b]?
 dead:∀b,D b->D' b
 names:∀id B,ι id=some B->ι' id=some B
 new:∀b,D' b->D b∨hs<=b
theorem Step.refl (hs:Nat) (D:Nat->Prop) (ι:Names) (w:World):Step hs D ι w D ι w:=⟨Below.refl _ _,fun _ _=>rfl,fun _ h=>h,fun _ _ h=>h,fun _ h=>.inl h⟩
theorem Step.trans {hs:Nat} {D D' D'':Nat->Prop} {ι ι' Sa:Names} {w w' KP:World} (h:Step hs D ι w D' ι' w') (k:Step hs D' ι' w' D'' Sa KP):Step hs D ι w D'' Sa KP:=
 ⟨h.below.trans k.below,fun b hb=>(k.qL b (h.dead b hb)).trans (h.qL b hb),fun b hb=>k.dead b (h.dead b hb),fun id B hB=>k.names id B (h.names id B hB),fun b hb=>by
  rcases k.new b hb with hb|hb
  ·exact h.new b hb
  ·exact .inr hb⟩
theorem Step.rep {hs:Nat} {D D':Nat->Prop} {ι ι':Names} {w w':World} (h:Step hs D ι w D' ι' w') {a:AV} {v:Value} (hr:cI P w D ι a v):cI P w' D' ι' a v:=hr.frame h.qL h.dead h.names
theorem dq {k n} {v:Value} (h:cI P w D ι (.int k n) v):v=.int k n:=by
 cases h with
 |eM _ _ h=>cases h;rfl
theorem e6 {b} {v:Value} (h:cI P w D ι (.bool b) v):v=.bool b:=by
 cases h with
 |eM _ _ h=>cases h;rfl
theorem fC {s} {v:Value} (h:cI P w D ι (.str s) v):v=.string s:=by
 cases h with
 |eM _ _ h=>cases h;rfl
theorem kd {v:Value} (h:cI P w D ι .cm v):v=.slice none 0 0:=by
 cases h with
 |eM _ _ h=>cases h;rfl
theorem w5 {v:Value} (h:cI P w D ι .iW v):v=.nilFunc:=by
 cases h with
 |eM _ _ h=>cases h;rfl
theorem iP {cs} {v:Value} (h:cI P w D ι (.agg cs) v):∃(vs:Array Value) (f:Nat->Value),v=.agg vs/\vs.size=cs.length/\(∀a∈cs,a.cell=true)/\(∀j,j<cs.length->vs[j]? =some (f j))/\∀j a,cs[j]? =some a->cI P w D ι a (f j):=by
 cases h with
 |eM _ _ h=>
  cases h with
  |agg cs vs f h1 h2 h3 h4=>exact⟨vs,f,rfl,h1,h2,h3,fun j a h=>.eM _ _ (h4 j a h)⟩
 |agg cs vs f h1 h2 h3 h4=>exact⟨vs,f,rfl,h1,h2,h3,h4⟩
theorem uY {cs} {v:Value} (h:cI P w D ι (.gJ cs) v):∃(vs:Array Value) (f:Nat->Value),v=.tuple vs/\vs.size=cs.length/\(∀j,j<cs.length->vs[j]? =some (f j))/\∀j a,cs[j]? =some a->cI P w D ι a (f j):=by
 cases h with
 |eM _ _ h=>cases h
 |gJ cs vs f h1 h2 h3=>exact⟨vs,f,rfl,h1,h2,h3⟩
theorem Ai {f cL} {v:Value} (h:cI P w D ι (.fn f cL) v):∃(vs:Array Value) (g:Nat->Value),v=.func (.func f) #[] vs/\fI P f=true/\vs.size=cL.length/\(∀j,j<cL.length->vs[j]? =some (g j))/\∀j a,cL[j]? =some a->cI P w D ι a (g j):=by
 cases h with
 |eM _ _ h=>
  cases h with
  |fn f cL vs g h1 h2 h3 h4=>exact⟨vs,g,rfl,h1,h2,h3,fun j a h=>.eM _ _ (h4 j a h)⟩
 |fn f cL vs g h1 h2 h3 h4=>exact⟨vs,g,rfl,h1,h2,h3,h4⟩
theorem JM {v:Value} (h:cI P w D ι .gR v):v=.pointer none:=by
 cases h with
 |eM _ _ h=>cases h;rfl
theorem Cn {v:Value} (h:cI P w D ι .jj v):v=.map none:=by
 cases h with
 |eM _ _ h=>cases h;rfl
theorem Mh {f cL} {v:Value} (h:cI P w D ι (.tY f cL) v):∃(vs:Array Value) (g:Nat->Value),v=.func (.func f) vs #[]/\fI P f=true/\vs.size=cL.length/\(∀j,j<cL.length->vs[j]? =some (g j))/\∀j a,cL[j]? =some a->cI P w D ι a (g j):=by
 cases h with
 |eM _ _ h=>cases h
 |tY f cL vs g h1 h2 h3 h4=>exact⟨vs,g,rfl,h1,h2,h3,h4⟩
theorem iQ {id off len} {v:Value} (h:cI P w D ι (.own id off len) v):∃o cap B,v=.slice (some ⟨B.b,o,none⟩) len cap/\ι id=some B/\len<=cap/\(cap=0∨o=off*B.sz)/\(off+cap)*B.sz<=B.C/\cap<=maxLen/\B.k=none:=by
 cases h with
 |eM _ _ h=>cases h
 |own id off len o cap B h1 h2 h3 h4 h5 h6=>exact⟨o,cap,B,rfl,h1,h3,h4,h5,h6,h2⟩
theorem iA {id i off} {v:Value} (h:cI P w D ι (.ptr id i off) v):∃B,v=.pointer (some ⟨B.b,i*B.sz+off,none⟩)/\ι id=some B/\B.k=none:=by
 cases h with
 |eM _ _ h=>cases h
 |ptr id i off B h1 h2=>exact⟨B,rfl,h1,h2⟩
theorem Mf {id} {v:Value} (h:cI P w D ι (.rE id) v):∃B c,v=.chan (some B.b)/\ι id=some B/\B.k=some (.chan c):=by
 cases h with
 |eM _ _ h=>cases h
 |rE id c B h1 h2=>exact⟨B,c,rfl,h1,h2⟩
theorem FA {id m} {v:Value} (h:cI P w D ι (.map id m) v):∃B,v=.map (some B.b)/\ι id=some B/\B.k=some (.map m):=by
 cases h with
 |eM _ _ h=>cases h
 |map id m B h1 h2=>exact⟨B,rfl,h1,h2⟩
theorem kY {cs} {v:Value} (h:cI P w D ι (.di cs) v):∃b o,∃vs:Nat->Value,v=.pointer (some ⟨b,o,none⟩)/\D b/\(∀a∈cs,a.cell=true)/\(∀j,j<cs.length->w.cell? ⟨b,o+j,none⟩=some (vs j))/\∀j a,cs[j]? =some a->jF P w D a (vs j):=by
 cases h with
 |eM _ _ h=>
  cases h with
  |di cs b o vs h1 h2 h3 h4=>exact⟨b,o,vs,rfl,h1,h2,h3,h4⟩
theorem w6 {rows} {v:Value} (h:cI P w D ι (.sl rows) v):∃A c,v=.slice A rows.length c/\rows.length<=c/\c<=maxLen/\
  (rows=[]∨∃b o sz,∃vs:Nat->Nat->Value,A=some ⟨b,o,none⟩/\D b/\(∀cs∈rows,cs.length=sz)/\(∀cs∈rows,∀a∈cs,a.cell=true)/\
   (∀i j,i<rows.length->j<sz->w.cell? ⟨b,o+(i*sz+j),none⟩=some (vs i j))/\∀i j cs a,rows[i]? =some cs->cs[j]? =some a->jF P w D a (vs i j)):=by
 cases h with
 |eM _ _ h=>
  cases h with
  |AU a c h=>exact⟨a,c,rfl,Nat.zero_le _,h,.inl rfl⟩
  |sl rows b o n c sz vs h1 h2 h3 h4 h5 h5' h6 h7=>subst h1;exact⟨_,c,rfl,h2,h3,.inr ⟨b,o,sz,vs,rfl,h4,h5,h5',h6,h7⟩⟩
inductive eF:AV->Prop
 |int (k n):eF (.int k n)
 |bool (b):eF (.bool b)
 |str (s):eF (.str s)
 |cm:eF .cm
 |gR:eF .gR
 |iW:eF .iW
 |sl (rows):rows.length<=maxLen->(∀cs∈rows,∀a∈cs,eF a)->eF (.sl rows)
 |own (id off len):eF (.own id off len)
 |ptr (id i off):eF (.ptr id i off)
 |di (cs):(∀a∈cs,eF a)->eF (.di cs)
 |agg (cs):(∀a∈cs,eF a)->eF (.agg cs)
 |gJ (cs):(∀a∈cs,eF a)->eF (.gJ cs)
 |fn (f cL):(∀a∈cL,eF a)->eF (.fn f cL)
 |map (id m):eF (.map id m)
 |rE (id):eF (.rE id)
 |jj:eF .jj
 |tY (f cL):(∀a∈cL,eF a)->eF (.tY f cL)
theorem eF.len {rows:List (List AV)} (h:eF (.sl rows)):rows.length<=9223372036854775807:=by
 cases h with
 |sl _ h _=>unfold maxLen at h;omega
theorem eF.cell {rows:List (List AV)} (h:eF (.sl rows)) {cs:List AV} (hc:cs∈rows) {a:AV} (ha:a∈cs):eF a:=by
 cases h with
 |sl _ _ h=>exact h cs hc a ha
theorem eF.Nv {cs:List AV} (h:eF (.agg cs)) {a:AV} (ha:a∈cs):eF a:=by
 cases h with
 |agg _ h=>exact h a ha
theorem eF.BU {cs:List AV} (h:eF (.di cs)) {a:AV} (ha:a∈cs):eF a:=by
 cases h with
 |di _ h=>exact h a ha
theorem oY {l:List AV} {p:AV->Prop} (h:∀(j:Nat) (a:AV),l[j]? =some a->p a):∀a∈l,p a:=fun a ha=>by
 obtain⟨j,hj,rfl⟩:=List.getElem_of_mem ha
 exact h j _ (List.getElem?_eq_getElem hj)
theorem jF.Ji {a:AV} {v:Value} (h:jF P w D a v):eF a:=by
 induction h with
 |int k n=>exact .int k n
 |bool b=>exact .bool b
 |str s=>exact .str s
 |cm=>exact .cm
 |gR=>exact .gR
 |iW=>exact .iW
 |jj=>exact .jj
 |AU a c h=>exact .sl [] (Nat.zero_le _) (fun cs h=>by cases h)
 |sl rows b o n c sz vs h1 h2 h3 h4 h5 h5' h6 _ ih=>
  exact .sl rows (by omega) fun cs du a ha=>by
   obtain⟨i,hi,rfl⟩:=List.getElem_of_mem du
   obtain⟨j,hj,rfl⟩:=List.getElem_of_mem ha
   exact ih i j _ _ (List.getElem?_eq_getElem hi) (List.getElem?_eq_getElem hj)
 |di cs b o vs h1 NT h2 _ ih=>exact .di cs (oY ih)
 |agg cs vs f h1 h2 h3 _ ih=>exact .agg cs (oY ih)
 |fn f cL vs g h1 h2 h3 _ ih=>exact .fn f cL (oY ih)
theorem cI.Ji {a:AV} {v:Value} (h:cI P w D ι a v):eF a:=by
 induction h with
 |eM a v h=>exact h.Ji
 |own id off len o cap B=>exact .own _ _ _
 |ptr id i off B=>exact .ptr _ _ _
 |map id m B=>exact .map _ _
 |rE id c B=>exact .rE _
 |agg cs vs f h1 h2 h3 _ ih=>exact .agg cs (oY ih)
 |gJ cs vs f h1 h2 _ ih=>exact .gJ cs (oY ih)
 |fn f cL vs g h1 h2 h3 _ ih=>exact .fn f cL (oY ih)
 |tY f cL vs g h1 h2 h3 _ ih=>exact .tY f cL (oY ih)
end Go.Proofs.YtgoelphibofcmaaGreat.V

namespace Go.Proofs.YtgoelphibofcmaaGreat.V
open Go.RowKit
variable {P:Program} {w w':World} {D D':Nat->Prop} {ι ι':Names}
def cq (P:Program) (w:World) (D:Nat->Prop) (ι:Names) (env:Env) (a:Act):Prop:=∀t,cI P w D ι (env t) (a.tmps.getD t undef)
theorem rT {vs:List Value} {cs:List K} (h:vs.mapM GA=some cs):cs.length=vs.length/\∀(j:Nat) (c:K),cs[j]? =some c->vs[j]? =some c.val:=by
 induction vs generalizing cs with
 |nil=>simp at h;subst h;simp
 |cons v r ih=>
  simp only[List.mapM_cons,Option.bind_eq_bind,Option.bind_eq_some_iff]at h
  obtain⟨c,hc,qb,du,h⟩:=h
  simp at h;subst h
  obtain⟨h1,h2⟩:=ih du
  refine⟨by simp[h1],fun j d hd=>?_⟩
  cases j with
  |zero=>simp at hd ⊢;subst hd;exact zU hc
  |succ j=>simp at hd ⊢;exact h2 j d hd
theorem U6 {vs:List Value} {cs:List K} (h:vs.mapM GA=some cs):cI P w D ι (.agg (cs.map K.av)) (.agg vs.toArray):=by
 obtain⟨h1,h2⟩:=rT h
 refine .agg _ _ (fun j=>vs.getD j undef) (by simp[h1]) (fun a ha=>?_) (fun j hj=>?_) (fun j a ha=>?_)
 ·obtain⟨c,_,rfl⟩:=List.mem_map.1 ha;exact c.mU
 ·simp at hj;simp[List.getElem?_eq_getElem (show j<vs.length by omega)]
 ·simp only[List.getElem?_map,Option.map_eq_some_iff]at ha
  obtain⟨c,hc,rfl⟩:=ha
  rw[List.getD_eq_getElem?_getD,h2 j c hc];exact wZ c
theorem dj {env:Env} {a:Act} {x:Operand} {y:O} (E:cq P w D ι env a) (h:cO P x=some y):cI P w D ι (cQ env y) (a.eval x):=by
 unfold cO at h
 split at h
 ·simp at h;subst h;exact E _
 ·simp only[Option.map_eq_some_iff]at h
  obtain⟨cs,du,rfl⟩:=h
  have:=U6 (P:=P) (w:=w) (D:=D) (ι:=ι) du
  simpa[Act.eval,cQ]using this
 ·simp only[Option.map_eq_some_iff]at h
  obtain⟨c,hc,rfl⟩:=h
  simp only[Act.eval,cQ]
  rw[zU hc];exact wZ c
 ·simp at h
 ·split at h
  ·rename_i hc
   simp at h;subst h
   simp only[Act.eval,cQ]
   exact .fn _ _ _ (fun _=>undef) hc rfl (fun j hj=>by simp at hj) (fun j a h=>by simp at h)
  ·simp at h
def ox (P:Program) (a:Act) (o:Oper) (w:World) (D:Nat->Prop) (ι:Names) (v:AV):Prop:=∃u,(execOp a.eval o).run P w=.ok (.value u) w/\cI P w D ι v u
section
variable {g:Rows} {hs:Nat} {env:Env} {a:Act} {o:Oper} {id:Id} {v:AV}
theorem Nh {x:Operand} {y:O} (E:cq P w D ι env a) (ho:o.op=.move x∨o.op=.assign x) (hx:cO P x=some y):ox P a o w D ι (cQ env y):=by
 refine⟨a.eval x,?_,dj E hx⟩
 rcases ho with h|h<;>simp[execOp,h,go_sem]
theorem PA {c x y:Operand} {c' x' y':O} (E:cq P w D ι env a) (ho:o.op=.pick c x y) (hc:cO P c=some c') (hx:cO P x=some x') (hy:cO P y=some y') (hv:de (cQ env c') (cQ env x') (cQ env y')=some v):ox P a o w D ι v:=by
 unfold de at hv
 split at hv
 ·rename_i b hb
  simp at hv;subst hv
  have h1:=e6 (hb▸dj E hc)
  refine⟨if b then a.eval x else a.eval y,by simp only[execOp,ho,h1,asBool];rfl,?_⟩
  cases b
  ·exact dj E hy
  ·exact dj E hx
 ·simp at hv
theorem RX {op:BinOp} {x y:Operand} {x' y':O} {t yt:TypeId} (E:cq P w D ι env a) (ho:o.op=.binOp op t x y yt) (he:op≠.eql) (hn:op≠.neq) (hx:cO P x=some x') (hy:cO P y=some y') (hv:ee op (cQ env x') (cQ env y')=some v):ox P a o w D ι v:=by
 unfold ee at hv
 split at hv
 ·rename_i k n k' m hb sV
  split at hv
  ·rename_i hk
   subst hk
   have h1:=dq (hb▸dj E hx)
   have h2:=dq (sV▸dj E hy)
   have key:∀u,(binOp op t (.int k n) (.int k m)).run P w=.ok u w->(execOp a.eval o).run P w=.ok (.value u) w:=fun u hu=>by
    have e0:eqGuard op t x y (.int k n) (.int k m)=pure ():=by unfold eqGuard;cases op<;>rfl
    simp only[execOp,ho,h1,h2,e0]
    simp[go_sem,hu]
   cases op<;>simp only[dD]at hv<;>(try(simp at hv;done))<;>(try split at hv)<;>(try(simp at hv;done))<;>simp only[Option.some.injEq]at hv<;>subst hv<;>
    (refine⟨_,key _ (by simp only[binOp,ne_eq,not_true_eq_false,if_false,Op.intArith,Op.intDiv,Op.intBits,Op.intCmp, *];rfl),?_⟩)<;>
    first
     |exact .eM _ _ (.int _ _)
     |exact .eM _ _ (.bool _)
  ·simp at hv
 ·simp at hv
theorem Pk {op:BinOp} {x y:Operand} {x' y':O} {t yt:TypeId} (E:cq P w D ι env a) (ho:o.op=.binOp op t x y yt) (he:op≠.eql) (hn:op≠.neq) (hx:cO P x=some x') (hy:cO P y=some y') (hv:dh op (cQ env x') (cQ env y')=some v):ox P a o w D ι v:=by
 unfold dh at hv
 split at hv
 ·rename_i n m hb sV
  have h1:=fC (hb▸dj E hx)
  have h2:=fC (sV▸dj E hy)
  cases op<;>simp only[ev]at hv<;>(try(simp at hv;done))
  case add=>
   split at hv
   ·rename_i hl
    simp only[Option.some.injEq]at hv;subst hv
    exact⟨_,by simp only[execOp,ho,h1,h2];simp[eqGuard,binOp,go_sem];exact hl,.eM _ _ (.str _)⟩
   ·simp at hv
  all_goals
   simp only[Option.some.injEq]at hv;subst hv
   exact⟨_,by simp only[execOp,ho,h1,h2];simp[eqGuard,binOp,Op.stringOp,go_sem],.eM _ _ (.bool _)⟩
 ·simp at hv
theorem FE (n m:ByteArray):(n.toList==m.toList)=decide (n=m):=by
 rw[ByteArray.toList_eq,ByteArray.toList_eq]
 by_cases h:n=m
 ·subst h;simp
 ·have:n.data.toList≠m.data.toList:=fun he=>h (ByteArray.ext (Array.ext' he))
  rw[decide_eq_false h];exact beq_eq_false_iff_ne.2 this
theorem pI {t:TypeId} (h:fm P t=some .tB):P.underlying t=some .bool:=by unfold fm at h;split at h<;>simp_all
theorem pJ {t:TypeId} (h:fm P t=some .tI):∃k,P.underlying t=some (.int k):=by unfold fm at h;split at h<;>simp_all
theorem pK {t:TypeId} (h:fm P t=some .tS):P.underlying t=some .string:=by unfold fm at h;split at h<;>simp_all
theorem r9 {d:Nat} {t:TypeId} {s:TS} {x y:AV} {u u':Value} {b:Bool} (hx:cI P w D ι x u) (hy:cI P w D ι y u') (hv:fU s x y=some b) (ht:fm P t=some s):(Op.equalIn (d+1) t u u').run P w=.ok b w:=by
 unfold fU at hv
 split at hv
 ·rename_i k n k' m
  split at hv
  ·rename_i hk
   subst hk
   simp at hv;subst hv
   obtain⟨q,hq⟩:=pJ ht
   rw[dq hx,dq hy,run_equalIn_int _ _ _ _ _ _ _ hq];rfl
  ·simp at hv
 ·simp at hv;subst hv
  rw[e6 hx,e6 hy,run_equalIn_bool' _ _ _ _ _ (pI ht)]
 ·simp at hv;subst hv
  rw[fC hx,fC hy,run_equalIn_string _ _ _ _ _ (pK ht),FE]
 ·simp at hv
def fe (P:Program) (w:World) (D:Nat->Prop) (ι:Names) (xs:List AV) (vs:Array Value):Prop:=vs.size=xs.length/\∀(j:Nat) (a:AV),xs[j]? =some a->∃u,vs[j]? =some u/\cI P w D ι a u
theorem fe.part {xs:List AV} {vs:Array Value} (h:fe P w D ι xs vs) (off n:Nat) (hn:off+n<=xs.length):fe P w D ι ((xs.drop off).take n) (vs.extract off (off+n)):=by
 refine⟨by simp[h.1];omega,fun j a ha=>?_⟩
 rw[List.getElem?_take]at ha
 split at ha
 ·rename_i hj
  rw[List.getElem?_drop]at ha
  obtain⟨u,h1,h2⟩:=h.2 _ _ ha
  refine⟨u,?_,h2⟩
  rw[Array.getElem?_extract]
  rw[if_pos (by rw[h.1];omega),h1]
 ·simp at ha
theorem rH:∀{ts:List TS} {xs ys:List AV} {b:Bool},eX ts xs ys=some b->xs.length=ts.length/\ys.length=ts.length
 |[],[],[],_,_=>⟨rfl,rfl⟩
 |t::ts,x::xs,y::ys,b,h=>by
  unfold eX at h
  split at h
  ·rename_i c d h1 h2
   have:=rH h2
   simp[this.1,this.2]
  ·simp at h
 |[],[],_::_,_,h=>by simp[eX]at h
 |[],_::_,_,_,h=>by simp[eX]at h
 |_::_,[],_,_,h=>by simp[eX]at h
 |_::_,_::_,[],_,h=>by simp[eX]at h
theorem EW:∀{ts us:List TS} {xs ys:List AV} {b:Bool},eX (ts++us) xs ys=some b->∃c d,eX ts (xs.take ts.length) (ys.take ts.length)=some c/\eX us (xs.drop ts.length) (ys.drop ts.length)=some d/\b=(c&&d)
 |[],us,xs,ys,b,h=>⟨true,b,by simp[eX],by simpa using h,by simp⟩
 |t::ts,us,x::xs,y::ys,b,h=>by
  simp only[List.cons_append]at h
  unfold eX at h
  split at h
  ·rename_i c d h1 h2
   obtain⟨c',d',h3,h4,rfl⟩:=EW h2
   simp at h;subst h
   exact⟨c&&c',d',by simp[eX,h1,h3],by simpa using h4,by simp[Bool.and_assoc]⟩
  ·simp at h
 |t::ts,us,[],ys,b,h=>by simp[eX]at h
 |t::ts,us,x::xs,[],b,h=>by simp[eX]at h
theorem mD {t:TypeId} {vs:Array Value} {off:Nat} {u:Value} (ha:nR P t=some false) (hu:vs[off]? =some u):(Go.part t vs off).run P w=.ok u w:=by
 unfold nR at ha
 have hi:(isAgg t).run P w=.ok false w:=by
  split at ha<;>simp at ha
  rename_i d h1 h2 hd
  simp only[isAgg,Sem.run_bind,run_underlying hd,Result.andThen_ok]
  cases d<;>simp_all
 simp[Go.part,hi,hu]
theorem tn {t:TypeId} {b:Bool} (ha:nR P t=some b):(isAgg t).run P w=.ok b w:=by
 unfold nR at ha
 split at ha<;>simp at ha<;>subst ha<;>rename_i hd<;>simp only[isAgg,Sem.run_bind,run_underlying hd,Result.andThen_ok]<;>(try simp)
theorem run_sizeOf {t:TypeId} {n:Nat} (h:dY P t=some n):(sizeOf t).run P w=.ok n w:=by
 unfold dY at h
 simp only[Option.map_eq_some_iff]at h
 obtain⟨i,hi,rfl⟩:=h
 simp[sizeOf,typeInfo,hi]
theorem pH {t:TypeId} {vs:Array Value} {off n:Nat} (ha:nR P t=some true) (hn:dY P t=some n):(Go.part t vs off).run P w=.ok (.agg (vs.extract off (off+n))) w:=by
 simp[Go.part,tn ha,run_sizeOf hn]
theorem Is (d off:Nat):eI P (d+1) off []=some []:=rfl
theorem yq (d off:Nat) (f:Field) (r:List Field):eI P (d+1) off (f::r)=(if f.offset=off/\f.name≠ "_" then
   match fm P f.type with
   |some t=>if nR P f.type=some false then(eI P (d+1) (off+1) r).map (t::·)else none
   |none=>match P.underlying f.type with
    |some (.struct fs)=>if !P.stoodInHeld f.type then match eI P d 0 fs.toList with
     |some ts=>if dY P f.type=some ts.length/\ts≠[]then(eI P (d+1) (off+ts.length) r).map (ts++·)else none
     |none=>none else none
    |_=>none
  else none):=rfl
theorem r8:∀(d:Nat) (fs:List Field) (off:Nat) (ts:List TS),eI P d off fs=some ts->∀(N:Nat) (_:d<=N) (xs ys:List AV) (vs us:Array Value) (b:Bool),fe P w D ι xs vs->fe P w D ι ys us->
  eX ts ((xs.drop off).take ts.length) ((ys.drop off).take ts.length)=some b->(Op.eqFields (N+1) vs us fs).run P w=.ok b w:=by
 intro d
 induction d with
 |zero=>
  intro fs off ts hf N _ xs ys vs us b _ _ he
  cases fs with
  |nil=>simp[eI]at hf;subst hf;simp[eX]at he;subst he;simp[Op.eqFields]
  |cons f r=>simp[eI]at hf
 |succ d ihd=>
  intro fs
  induction fs with
  |nil=>
   intro off ts hf N _ xs ys vs us b _ _ he
   rw[Is]at hf;simp at hf;subst hf;simp[eX]at he;subst he;simp[Op.eqFields]
  |cons f r ih=>
   intro off ts hf N hN xs ys vs us b hx hy he
   rw[yq]at hf
   split at hf
   ·rename_i hcond
    obtain⟨ho,gW⟩:=hcond
    split at hf
    ·rename_i s hs
     split at hf
     ·rename_i uN
      simp only[Option.map_eq_some_iff]at hf
      obtain⟨Nf,hr,rfl⟩:=hf
      obtain⟨l1,l2⟩:=rH he
      simp only[List.length_cons,List.length_take,List.length_drop]at l1 l2
      have HB:off<xs.length:=by omega
      have hyo:off<ys.length:=by omega
      rw[List.drop_eq_getElem_cons HB,List.drop_eq_getElem_cons hyo,List.length_cons,List.take_succ_cons,List.take_succ_cons]at he
      unfold eX at he
      split at he
      ·rename_i c d' h1 h2
       simp at he;subst he
       obtain⟨u,hu,ru⟩:=hx.2 off _ (List.getElem?_eq_getElem HB)
       obtain⟨u',Fj,ru'⟩:=hy.2 off _ (List.getElem?_eq_getElem hyo)
       have:=ih (off+1) Nf hr N hN xs ys vs us d' hx hy h2
       simp only[Op.eqFields,if_pos gW,Sem.run_bind,ho,mD uN hu,mD uN Fj,Result.andThen_ok,r9 ru ru' h1 hs,Sem.run_ite]
       cases c<;>simp[this]
      ·simp at he
     ·simp at hf
    ·split at hf
     ·rename_i fs' rJ
      split at hf
      ·rename_i dF
       split at hf
       ·rename_i ts1 hts1
        split at hf
        ·rename_i fj
         simp only[Option.map_eq_some_iff]at hf
         obtain⟨Nf,hr,rfl⟩:=hf
         obtain⟨c,d',h1,h2,rfl⟩:=EW he
         obtain⟨l1,l2⟩:=rH he
         simp only[List.length_append,List.length_take,List.length_drop]at l1 l2
         have uN:nR P f.type=some true:=by simp[nR,rJ]
         have jN:0<ts1.length:=List.length_pos_iff.2 fj.2
         have I6:off+ts1.length<=xs.length:=by omega
         have Rp:off+ts1.length<=ys.length:=by omega
         rw[List.drop_take,List.drop_drop,List.drop_take,List.drop_drop]at h2
         rw[List.take_take,List.take_take]at h1
         simp only[List.length_append]at h1 h2
         rw[Nat.min_eq_left (by omega)]at h1
         have e2:ts1.length+Nf.length-ts1.length=Nf.length:=by omega
         rw[e2]at h2
         have:=ih (off+ts1.length) Nf hr N hN xs ys vs us d' hx hy h2
         have fh:=ihd fs'.toList 0 ts1 hts1 (N-1) (by omega) _ _ _ _ c (hx.part off ts1.length I6) (hy.part off ts1.length Rp) (by simpa[List.take_take]using h1)
         have hN':N-1+1=N:=by omega
         rw[hN']at fh
         have II:P.fieldsOf f.type=fs':=by simp[Program.fieldsOf,rJ]
         simp only[Op.eqFields,if_pos gW,Sem.run_bind,ho,pH uN fj.1,Result.andThen_ok,Sem.run_ite]
         rw[run_equalIn_struct w N f.type _ _ (by rw[II];exact rJ) (by simpa using dF),II,fh]
         cases c<;>simp[this]
        ·simp at hf
       ·simp at hf
      ·simp at hf
     ·simp at hf
   ·simp at hf
theorem R3 {x y:Operand} {x' y':O} {t yt:TypeId} {neg:Bool} {s:TS} {b:Bool} (E:cq P w D ι env a) (ho:o.op=.binOp (if neg then .neq else .eql) t x y yt) (hs:fm P t=some s) (hx:cO P x=some x') (hy:cO P y=some y')
  (hv:fU s (cQ env x') (cQ env y')=some b):ox P a o w D ι (.bool (dr neg b)):=by
 have rx:=dj E hx
 have ry:=dj E hy
 refine⟨.bool (dr neg b),?_,.eM _ _ (.bool _)⟩
 have e0:(eqGuard (if neg then .neq else .eql) t x y (a.eval x) (a.eval y)).run P w=.ok () w:=by
  unfold fU at hv
  split at hv
  ·rename_i k n k' m h1 h2
   rw[h1]at rx;rw[h2]at ry
   rw[dq rx,dq ry];unfold eqGuard;cases neg<;>simp
  ·rename_i n m h1 h2
   rw[h1]at rx;rw[h2]at ry
   rw[e6 rx,e6 ry];unfold eqGuard;cases neg<;>simp
  ·rename_i n m h1 h2
   rw[h1]at rx;rw[h2]at ry
   rw[fC rx,fC ry];unfold eqGuard;cases neg<;>simp
  ·simp at hv
 have e1:(binOp (if neg then .neq else .eql) t (a.eval x) (a.eval y)).run P w=.ok (.bool (dr neg b)) w:=by
  have q:=r9 (d:=9999) rx ry hv hs
  unfold fU at hv
  split at hv
  ·rename_i k n k' m h1 h2
   split at hv
   ·rename_i hk
    subst hk
    simp at hv;subst hv
    rw[h1]at rx;rw[h2]at ry
    rw[dq rx,dq ry]
    cases neg<;>simp only[binOp,ne_eq,not_true_eq_false,if_false,Op.intCmp,dr,if_true,Bool.false_eq_true]<;>simp[bne]<;>rfl
   ·simp at hv
  ·rename_i n m h1 h2
   rw[h1]at rx;rw[h2]at ry
   rw[e6 rx,e6 ry]at q ⊢
   cases neg<;>simp only[binOp,dr,if_true,Bool.false_eq_true,if_false,Sem.run_bind]<;>simp[Op.equal,Op.maxDepth,q]
  ·rename_i n m h1 h2
   simp at hv;subst hv
   rw[h1]at rx;rw[h2]at ry
   rw[fC rx,fC ry]
   cases neg<;>simp[binOp,Op.stringOp,dr,FE]
  ·simp at hv
 simp only[execOp,ho,Sem.run_bind,e0,e1,Result.andThen_ok,Sem.run_pure]
theorem RZ {x y:Operand} {x' y':O} {t yt:TypeId} {neg:Bool} {ts:List TS} {fs:Array Field} {xs ys:List AV} {b:Bool} (E:cq P w D ι env a) (ho:o.op=.binOp (if neg then .neq else .eql) t x y yt) (rJ:P.underlying t=some (.struct fs)) (dF:P.stoodInHeld t=false) (Lp:P.eqGuardType P.depth t=false)
  (xS:eI P 4 0 fs.toList=some ts) (hx:cO P x=some x') (hy:cO P y=some y') (h1:cQ env x'=.agg xs) (h2:cQ env y'=.agg ys)
  (hv:eX ts xs ys=some b):ox P a o w D ι (.bool (dr neg b)):=by
 obtain⟨vs,f,rx,n1,_,f1,r1⟩:=iP (h1▸dj E hx)
 obtain⟨us,f',ry,n2,_,f2,r2⟩:=iP (h2▸dj E hy)
 refine⟨.bool (dr neg b),?_,.eM _ _ (.bool _)⟩
 obtain⟨l1,l2⟩:=rH hv
 have L:∀(xs:List AV) (vs:Array Value) (f:Nat->Value),vs.size=xs.length->(∀j,j<xs.length->vs[j]? =some (f j))->(∀j a,xs[j]? =some a->cI P w D ι a (f j))->fe P w D ι xs vs:=fun xs vs f h1 h2 h3=>
  ⟨h1,fun j a ha=>⟨f j,h2 j (List.getElem?_eq_some_iff.1 ha).1,h3 j a ha⟩⟩
 have q:=r8 (w:=w) 4 fs.toList 0 ts xS 9998 (by omega) xs ys vs us b (L _ _ _ n1 f1 r1) (L _ _ _ n2 f2 r2) (by simpa[List.take_of_length_le,l1,l2]using hv)
 have II:P.fieldsOf t=fs:=by simp[Program.fieldsOf,rJ]
 have q2:(Op.equal t (.agg vs) (.agg us)).run P w=.ok b w:=by
  unfold Op.equal
  rw[show Op.maxDepth=9999+1 from rfl,run_equalIn_struct w 9999 t _ _ (by rw[II];exact rJ) dF,II,q]
 simp only[execOp,ho,Sem.run_bind,rx,ry,run_eqGuard_agg w _ _ _ _ _ _ Lp,Result.andThen_ok]
 cases neg<;>simp[binOp,q2,dr]
theorem Pp {x:Operand} {x':O} {t yt e:TypeId} {neg:Bool} {b:Bool} (E:cq P w D ι env a) (ho:o.op=.binOp (if neg then .neq else .eql) t x (.const (.slice none 0 0)) yt) (ht:P.underlying t=some (.slice e)) (hx:cO P x=some x')
  (hv:dd (cQ env x')=some b):ox P a o w D ι (.bool (dr neg b)):=by
 have hr:=dj E hx
 have rx:∃A n c,a.eval x=.slice A n c/\b=A.isNone:=by
  unfold dd at hv
  split at hv<;>simp at hv<;>subst hv<;>rename_i hh
  ·rw[hh]at hr;exact⟨_,_,_,kd hr,rfl⟩
  ·rw[hh]at hr;obtain⟨o,cap,B,h,_⟩:=iQ hr
   exact⟨_,_,_,h,rfl⟩
  ·rw[hh]at hr
   obtain⟨A,c,h',_,_,h⟩:=w6 hr
   rcases h with h|⟨b,o,sz,vs,rfl,_⟩
   ·simp at h
   ·exact⟨_,_,_,h',rfl⟩
 refine⟨.bool (dr neg b),?_,.eM _ _ (.bool _)⟩
 obtain⟨A,n,c,h,rfl⟩:=rx
 have hq:(Op.equal t (.slice A n c) (.slice none 0 0)).run P w=.ok A.isNone w:=by
  unfold Op.equal
  rw[show Op.maxDepth=9999+1 from rfl,Op.equalIn]
  simp only[Sem.run_bind,run_underlying ht,Result.andThen_ok]
  cases A<;>rfl
 have hc:a.eval (.const (.slice none 0 0))=.slice none 0 0:=rfl
 simp only[execOp,ho,h,hc]
 cases neg<;>simp only[Bool.false_eq_true,if_false,if_true,Bool.not_true,Bool.not_false,eqGuard,binOp,dr,Sem.run_bind,hq,Result.andThen_ok,Sem.run_pure]
theorem R0 {x:Operand} {x':O} {t yt e:TypeId} {neg:Bool} {b:Bool} (E:cq P w D ι env a) (ho:o.op=.binOp (if neg then .neq else .eql) t x (.const (.pointer none)) yt) (ht:P.underlying t=some (.pointer e)) (hx:cO P x=some x')
  (hv:Ko (cQ env x')=some b):ox P a o w D ι (.bool (dr neg b)):=by
 have hr:=dj E hx
 have rx:∃A,a.eval x=.pointer A/\b=A.isNone:=by
  unfold Ko at hv
  split at hv<;>simp at hv<;>subst hv<;>rename_i hh
  ·rw[hh]at hr;exact⟨_,JM hr,rfl⟩
  ·rw[hh]at hr;obtain⟨B,h,_⟩:=iA hr
   exact⟨_,h,rfl⟩
  ·rw[hh]at hr;obtain⟨_,_,_,h,_⟩:=kY hr
   exact⟨_,h,rfl⟩
 refine⟨.bool (dr neg b),?_,.eM _ _ (.bool _)⟩
 obtain⟨A,h,rfl⟩:=rx
 have hq:(Op.equal t (.pointer A) (.pointer none)).run P w=.ok A.isNone w:=by
  unfold Op.equal
  rw[show Op.maxDepth=9999+1 from rfl,Op.equalIn]
  simp only[Sem.run_bind,run_underlying ht,Result.andThen_ok]
  cases A<;>rfl
 have hc:a.eval (.const (.pointer none))=.pointer none:=rfl
 simp only[execOp,ho,h,hc]
 cases neg<;>simp only[Bool.false_eq_true,if_false,if_true,Bool.not_true,Bool.not_false,eqGuard,binOp,dr,Sem.run_bind,hq,Result.andThen_ok,Sem.run_pure]
theorem Po {x:Operand} {x':O} {t yt:TypeId} {p r:Array TypeId} {va:Bool} {neg:Bool} {b:Bool} (E:cq P w D ι env a) (ho:o.op=.binOp (if neg then .neq else .eql) t x (.const .nilFunc) yt) (ht:P.underlying t=some (.func p r va)) (hx:cO P x=some x')
  (hv:dc (cQ env x')=some b):ox P a o w D ι (.bool (dr neg b)):=by
 have hr:=dj E hx
 have rx:a.eval x=.nilFunc/\b=true∨∃f c,a.eval x=.func f #[] c/\b=false:=by
  unfold dc at hv
  split at hv<;>simp at hv<;>subst hv<;>rename_i hh
  ·rw[hh]at hr;exact .inl ⟨w5 hr,rfl⟩
  ·rw[hh]at hr;obtain⟨vs,g,h,_⟩:=Ai hr
   exact .inr ⟨_,_,h,rfl⟩
 refine⟨.bool (dr neg b),?_,.eM _ _ (.bool _)⟩
 have hc:a.eval (.const .nilFunc)=.nilFunc:=rfl
 rcases rx with⟨h,rfl⟩|⟨f,c,h,rfl⟩
 ·have hq:(Op.equal t .nilFunc .nilFunc).run P w=.ok true w:=by
   unfold Op.equal
   rw[show Op.maxDepth=9999+1 from rfl,Op.equalIn]
   simp only[Sem.run_bind,run_underlying ht,Result.andThen_ok]
   rfl
  simp only[execOp,ho,h,hc]
  cases neg<;>simp only[Bool.false_eq_true,if_false,if_true,Bool.not_true,Bool.not_false,eqGuard,binOp,dr,Sem.run_bind,hq,Result.andThen_ok,Sem.run_pure]
 ·have hq:(Op.equal t (.func f #[] c) .nilFunc).run P w=.ok false w:=by
   unfold Op.equal
   rw[show Op.maxDepth=9999+1 from rfl,Op.equalIn]
   simp only[Sem.run_bind,run_underlying ht,Result.andThen_ok]
   rfl
  simp only[execOp,ho,h,hc]
  cases neg<;>simp only[Bool.false_eq_true,if_false,if_true,Bool.not_true,Bool.not_false,eqGuard,binOp,dr,Sem.run_bind,hq,Result.andThen_ok,Sem.run_pure]
theorem R6 {x:Operand} {x':O} {t:TypeId} (E:cq P w D ι env a) (ho:o.op=.unOp .not t x) (hx:cO P x=some x') (hv:ek (cQ env x')=some v):ox P a o w D ι v:=by
 have hr:=dj E hx
 unfold ek at hv
 split at hv
 ·rename_i b hb
  simp at hv;subst hv
  rw[hb]at hr
  exact⟨_,by simp only[execOp,ho,e6 hr];rfl,.eM _ _ (.bool _)⟩
 ·simp at hv
theorem R5 {x:Operand} {x':O} {t:TypeId} (E:cq P w D ι env a) (ho:o.op=.unOp .neg t x) (hx:cO P x=some x') (hv:ei (cQ env x')=some v):ox P a o w D ι v:=by
 have hr:=dj E hx
 unfold ei at hv
 split at hv
 ·rename_i k n hb
  simp at hv;subst hv
  rw[hb]at hr
  refine⟨_,by simp only[execOp,ho,dq hr];rfl,?_⟩
  rw[Int.zero_sub];exact .eM _ _ (.int _ _)
 ·simp at hv
theorem Pm {x:Operand} {x':O} {s d:TypeId} {k q:IntKind} (E:cq P w D ι env a) (ho:o.op=.convert s d x) (hs:P.underlying s=some (.int q)) (hd:P.underlying d=some (.int k)) (hx:cO P x=some x') (hv:cV k (cQ env x')=some v):ox P a o w D ι v:=by
 have hr:=dj E hx
 unfold cV at hv
 split at hv
 ·rename_i k' n hb
  simp at hv;subst hv
  rw[hb]at hr
  refine⟨.int k (k.wrap n),?_,.eM _ _ (.int _ _)⟩
  simp only[execOp,ho,dq hr,convert,Sem.run_bind,run_underlying hs,run_underlying hd,Result.andThen_ok,Conv.intToInt,Sem.run_pure]
 ·simp at hv
theorem Mw {x:Operand} {x':O} {s:TypeId} {i:Nat} {fs:Array Field} {f:Field} {m:Nat} (E:cq P w D ι env a) (ho:o.op=.fieldAddr s x i) (hs:P.underlying s=some (.struct fs)) (hf:fs[i]? =some f) (hm:dY P f.type=some (m+1)) (hx:cO P x=some x')
  (hv:ED f.offset (cQ env x')=some v):ox P a o w D ι v:=by
 have hr:=dj E hx
 have go:∀b oo,a.eval x=.pointer (some ⟨b,oo,none⟩)->(execOp a.eval o).run P w=.ok (.value (.pointer (some ⟨b,oo+f.offset,none⟩))) w:=fun b oo h=>by
  simp only[execOp,ho,h,Instr.fieldAt,Sem.run_bind,run_underlying hs,Result.andThen_ok,hf,Instr.sureAddr,Sem.run_pure,fieldPlace,run_sizeOf hm,Nat.add_eq_zero_iff,Nat.one_ne_zero,and_false,if_false,Addr.add]
  split
  ·rename_i h0;simp[h0]
  ·rfl
 unfold ED at hv
 split at hv
 ·rename_i jW i' oo hb
  simp at hv;subst hv
  rw[hb]at hr
  obtain⟨B,h,hB,hk⟩:=iA hr
  refine⟨_,go _ _ h,?_⟩
  rw[Nat.add_assoc]
  exact .ptr _ _ _ _ hB hk
 ·rename_i cs hb
  simp at hv;subst hv
  rw[hb]at hr
  obtain⟨b,oo,vs,h,h1,h2,h3,h4⟩:=kY hr
  refine⟨_,go _ _ h,.eM _ _ (.di _ _ _ (fun j=>vs (f.offset+j)) h1 (fun a ha=>h2 a (List.mem_of_mem_drop ha)) (fun j hj=>?_) (fun j a ha=>h4 _ _ (by simpa using ha)))⟩
  rw[Nat.add_assoc]
  exact h3 _ (by simp at hj;omega)
 ·simp at hv
theorem Mx {x:Operand} {x':O} {s:TypeId} {i n:Nat} {ag:Bool} {fs:Array Field} {f:Field} (E:cq P w D ι env a) (ho:o.op=.field s x i) (hs:P.underlying s=some (.struct fs)) (hf:fs[i]? =some f) (uN:nR P f.type=some ag) (hm:dY P f.type=some n) (hx:cO P x=some x')
  (hv:bK ag f.offset n (cQ env x')=some v):ox P a o w D ι v:=by
 have hr:=dj E hx
 unfold bK at hv
 split at hv
 ·rename_i cs hb
  split at hv
  ·rename_i hl
   rw[hb]at hr
   obtain⟨vs,g,h,n1,fl,f1,r1⟩:=iP hr
   unfold part at hv
   cases ag with
   |true=>
    simp only[if_true]at hv
    split at hv
    ·simp at hv;subst hv
     refine⟨.agg (vs.extract f.offset (f.offset+n)),?_,.agg _ _ (fun j=>g (f.offset+j)) (by simp[n1];omega) (fun a ha=>fl a (List.mem_of_mem_drop (List.mem_of_mem_take ha))) (fun j hj=>?_) (fun j a ha=>?_)⟩
     ·simp only[execOp,ho,h,Instr.field,Sem.run_bind,run_underlying hs,Result.andThen_ok,hf,asAgg,Sem.run_pure,pH uN hm]
     ·simp at hj
      rw[Array.getElem?_extract,if_pos (by omega)];exact f1 _ (by omega)
     ·rw[List.getElem?_take]at ha
      split at ha
      ·exact r1 _ _ (by simpa using ha)
      ·simp at ha
    ·simp at hv
   |false=>
    simp only[Bool.false_eq_true,if_false]at hv
    have nW:cs[f.offset]? =some v:=by simpa[List.head?_drop]using hv
    have dS:=(List.getElem?_eq_some_iff.1 nW).1
    exact⟨g f.offset,by simp only[execOp,ho,h,Instr.field,Sem.run_bind,run_underlying hs,Result.andThen_ok,hf,asAgg,Sem.run_pure,mD uN (f1 _ dS)],r1 _ _ nW⟩
  ·simp at hv
 ·simp at hv
theorem R7 {left:Bool} {x y:Operand} {x' y':O} {t yt:TypeId} (E:cq P w D ι env a) (ho:o.op=.binOp (if left then .shl else .shr) t x y yt) (hx:cO P x=some x') (hy:cO P y=some y') (hv:ik left (cQ env x') (cQ env y')=some v):ox P a o w D ι v:=by
 unfold ik at hv
 split at hv
 ·rename_i k n k' m hb sV
  split at hv
  ·simp at hv
  ·rename_i hm
   simp at hv;subst hv
   have h1:=dq (hb▸dj E hx)
   have h2:=dq (sV▸dj E hy)
   refine⟨_,?_,.eM _ _ (.int _ _)⟩
   simp only[execOp,ho,h1,h2]
   cases left<;>simp only[Bool.false_eq_true,if_false,if_true,eqGuard,Bool.not_true,Bool.not_false,binOp,Op.shift,hm,Sem.run_bind,Sem.run_pure,Result.andThen_ok]<;>rfl
 ·simp at hv
end
end Go.Proofs.YtgoelphibofcmaaGreat.V

namespace Go.Proofs.YtgoelphibofcmaaGreat.V
open Go.RowKit
variable {P:Program} {w w':World} {D D':Nat->Prop} {ι ι':Names}
theorem kf (b o j:Nat):(⟨b,o,none⟩:Addr).add j=⟨b,o+j,none⟩:=by unfold Addr.add;split<;>simp_all
section
variable {g:Rows} {hs:Nat} {env:Env} {a:Act} {o:Oper} {id:Id} {v:AV}
theorem kD {t:TypeId} {ag:Bool} {n b oo:Nat} {cs:List AV} {v:AV} {f:Nat->Value} (uN:nR P t=some ag) (hn:dY P t=some n) (hp:part ag n cs=some v) (fl:∀a∈cs,a.cell=true)
  (hc:∀j,j<cs.length->w.cell? ⟨b,oo+j,none⟩=some (f j)) (hr:∀j a,cs[j]? =some a->cI P w D ι a (f j)):∃u,(loadVar t ⟨b,oo,none⟩).run P w=.ok u w/\cI P w D ι v u:=by
 unfold part at hp
 cases ag with
 |true=>
  simp only[if_true]at hp
  split at hp
  ·rename_i hl
   simp at hp;subst hp
   refine⟨.agg ((List.range n).map f).toArray,?_,.agg _ _ f (by simp;omega) (fun a ha=>fl a (List.mem_of_mem_take ha)) (fun j hj=>?_) (fun j a ha=>?_)⟩
   ·simp only[loadVar,Sem.run_bind,tn uN,Result.andThen_ok,if_true,run_sizeOf hn,Sem.run_pure]
    rw[run_loadCells w _ n f (fun j hj=>by rw[kf];exact hc j (by omega))]
    rfl
   ·simp at hj
    have:j<n:=by omega
    simp[this]
   ·rw[List.getElem?_take]at ha
    split at ha
    ·exact hr _ _ ha
    ·simp at ha
  ·simp at hp
 |false=>
  simp only[Bool.false_eq_true,if_false]at hp
  cases cs with
  |nil=>simp at hp
  |cons c r=>
   simp at hp;subst hp
   refine⟨f 0,?_,hr 0 _ rfl⟩
   simp only[loadVar,Sem.run_bind,tn uN,Result.andThen_ok,Bool.false_eq_true,if_false]
   have:=hc 0 (by simp)
   simp at this
   rw[run_load,this]
theorem JW {S:gw P hs D ι g w} {i:Nat} {cs:List AV} (h:rowAt g id i=some cs) (hk:∀B,ι id=some B->B.k=none):∃B r,g id=some r/\ι id=some B/\lv P w D ι B r/\r.rows[i]? =some cs/\(∀a∈cs,a.cell=true)/\∃f:Nat->Value,∀j,j<cs.length->w.cell? ⟨B.b,i*B.sz+j,none⟩=some (f j)/\∀a,cs[j]? =some a->cI P w D ι a (f j):=by
 unfold rowAt at h
 simp only[Option.bind_eq_some_iff]at h
 obtain⟨r,hr,hi⟩:=h
 obtain⟨B,hB,R,_,_⟩:=S.row id r hr
 replace R:=R.row (hk B hB)
 refine⟨B,r,hr,hB,R,hi,R.flat cs (List.mem_of_getElem? hi),fun j=>(w.cell? ⟨B.b,i*B.sz+j,none⟩).getD undef,fun j hj=>?_⟩
 obtain⟨u,hu,xR⟩:=R.at_ i j cs _ hi (List.getElem?_eq_getElem hj)
 rw[R.sz,hu]
 refine⟨by simp only[hu,Option.getD_some],fun a ha=>?_⟩
 rw[List.getElem?_eq_getElem hj]at ha
 injection ha with ha
 subst ha
 simpa only[hu,Option.getD_some]using xR
theorem Pv {x:Operand} {x':O} {t:TypeId} {ag:Bool} {n:Nat} (S:gw P hs D ι g w) (E:cq P w D ι env a) (ho:o.op=.load t x) (uN:nR P t=some ag) (hn:dY P t=some n) (hx:cO P x=some x') (hv:ld g ag n (cQ env x')=some v):ox P a o w D ι v:=by
 have hr:=dj E hx
 have go:∀b oo u,a.eval x=.pointer (some ⟨b,oo,none⟩)->(loadVar t ⟨b,oo,none⟩).run P w=.ok u w->(execOp a.eval o).run P w=.ok (.value u) w:=fun b oo u h h2=>by
  simp only[execOp,ho,h,Instr.loadAt,Instr.sureAddr,Sem.run_bind,Sem.run_pure,Result.andThen_ok,h2]
 unfold ld at hv
 split at hv
 ·rename_i jW i' oo hb
  rw[hb]at hr
  obtain⟨B,h,hB,hk⟩:=iA hr
  simp only[Option.bind_eq_some_iff]at hv
  obtain⟨cs,du,hp⟩:=hv
  obtain⟨B',r,CK,dz,R,hi,fl,f,hf⟩:=JW (S:=S) du (fun B2 h2=>by rw[hB]at h2;injection h2 with h2;subst h2;exact hk)
  rw[hB]at dz;injection dz with dz;subst dz
  obtain⟨u,h1,h2⟩:=kD (w:=w) (b:=B.b) (oo:=i'*B.sz+oo) (f:=fun j=>f (oo+j)) uN hn hp (fun a ha=>fl a (List.mem_of_mem_drop ha)) (fun j hj=>by
   rw[Nat.add_assoc];exact(hf _ (by simp at hj;omega)).1) (fun j a ha=>by
   simp at ha;exact(hf _ ((List.getElem?_eq_some_iff.1 ha).1)).2 _ ha)
  exact⟨u,go _ _ _ h h1,h2⟩
 ·rename_i cs hb
  rw[hb]at hr
  obtain⟨b,oo,vs,h,h1,h2,h3,h4⟩:=kY hr
  obtain⟨u,k1,k2⟩:=kD (w:=w) (b:=b) (oo:=oo) (f:=vs) uN hn hv h2 h3 (fun j a ha=>.eM _ _ (h4 j a ha))
  exact⟨u,go _ _ _ h k1,k2⟩
 ·simp at hv
theorem RY {x:Operand} {x':O} (E:cq P w D ι env a) (ho:o.op=.nilCheck x) (hx:cO P x=some x') (hv:ef (cQ env x')=some v):ox P a o w D ι v:=by
 have hr:=dj E hx
 unfold ef at hv
 split at hv
 ·rename_i jW i' oo hb
  simp at hv;subst hv
  rw[hb]at hr
  obtain⟨B,h,hB,hk⟩:=iA hr
  exact⟨_,by simp only[execOp,ho,h];rfl,.ptr _ _ _ _ hB hk⟩
 ·rename_i cs hb
  simp at hv;subst hv
  rw[hb]at hr
  obtain⟨b,oo,vs,h,_⟩:=kY hr
  exact⟨_,by simp only[execOp,ho,h];rfl,h▸hr⟩
 ·simp at hv
theorem My {x i:Operand} {x' i':O} {t e:TypeId} {m:Nat} (S:gw P hs D ι g w) (E:cq P w D ι env a) (ho:o.op=.indexAddr t x i) (ht:P.underlying t=some (.slice e)) (hm:dY P e=some (m+1)) (hx:cO P x=some x') (hi:cO P i=some i')
  (hv:bP g (m+1) (cQ env x') (cQ env i')=some v):ox P a o w D ι v:=by
 have hr:=dj E hx
 have DD:=dj E hi
 have go:∀b oo n c k (q:Int),a.eval x=.slice (some ⟨b,oo,none⟩) n c->a.eval i=.int k q->0<=q->q<n->(execOp a.eval o).run P w=.ok (.value (.pointer (some ⟨b,oo+q.toNat*(m+1),none⟩))) w:=fun b oo n c k q h h2 h3 h4=>by
  simp only[execOp,ho,h,h2,Instr.indexAt,asIntOf,Sem.run_bind,Sem.run_pure,run_underlying ht,Result.andThen_ok,h3,h4,and_self,if_true,run_sizeOf hm,kf]
 unfold bP at hv
 split at hv
 ·rename_i rows k q hb sV
  split at hv
  ·rename_i hq
   simp only[Option.bind_eq_some_iff]at hv
   obtain⟨cs,du,hv⟩:=hv
   split at hv
   ·rename_i hlen
    simp at hv;subst hv
    rw[hb]at hr;rw[sV]at DD
    have dS:=(List.getElem?_eq_some_iff.1 du).1
    obtain⟨A,c,h,h1,h2,h3⟩:=w6 hr
    rcases h3 with h3|⟨b,oo,sz,vs,rfl,hD,hl,fl,hc,hi⟩
    ·subst h3;simp at du
    have fj:sz=m+1:=by rw[<-hlen,hl cs (List.mem_of_getElem? du)]
    refine⟨_,go b oo _ _ k q h (dq DD) hq (by omega),.eM _ _ (.di cs b _ (vs q.toNat) hD (fl cs (List.mem_of_getElem? du)) (fun j hj=>?_) (fun j a ha=>hi _ _ _ _ du ha))⟩
    have:=hc q.toNat j dS (by rw[<-hl cs (List.mem_of_getElem? du)];exact hj)
    rw[fj]at this
    rw[Nat.add_assoc];exact this
   ·simp at hv
  ·simp at hv
 ·rename_i jW off len k q hb sV
  split at hv
  ·rename_i hq
   simp only[Option.bind_eq_some_iff]at hv
   obtain⟨r,CK,hv⟩:=hv
   split at hv
   ·rename_i yE
    simp at hv;subst hv
    rw[hb]at hr;rw[sV]at DD
    obtain⟨oo,cap,B,h,hB,h1,h2,h3,h4,hk⟩:=iQ hr
    obtain⟨B',dz,R,_,_⟩:=S.row _ _ CK
    rw[hB]at dz;injection dz with dz;subst dz
    replace R:=R.row hk
    have fj:B.sz=m+1:=R.sz.trans yE
    refine⟨_,go _ _ _ _ k q h (dq DD) hq.1 hq.2,?_⟩
    have CH:oo=off*B.sz:=by rcases h2 with h2|h2<;>omega
    have:oo+q.toNat*(m+1)=(off+q.toNat)*B.sz+0:=by rw[CH,<-fj,Nat.add_mul];rfl
    rw[this]
    exact .ptr _ _ _ _ hB hk
   ·simp at hv
  ·simp at hv
 ·simp at hv
theorem Pq {x i:Operand} {x' i':O} {t e:TypeId} {m len:Nat} (E:cq P w D ι env a) (ho:o.op=.indexAddr t x i) (ht:P.underlying t=some (.array len e)) (hm:dY P e=some (m+1)) (hx:cO P x=some x') (hi:cO P i=some i')
  (hv:cW len (m+1) (cQ env x') (cQ env i')=some v):ox P a o w D ι v:=by
 have hr:=dj E hx
 have DD:=dj E hi
 have go:∀b oo k (q:Int),a.eval x=.pointer (some ⟨b,oo,none⟩)->a.eval i=.int k q->0<=q->q<len->(execOp a.eval o).run P w=.ok (.value (.pointer (some ⟨b,oo+q.toNat*(m+1),none⟩))) w:=fun b oo k q h h2 h3 h4=>by
  simp only[execOp,ho,h,h2,Instr.indexAt,asIntOf,Sem.run_bind,Sem.run_pure,run_underlying ht,Instr.sureAddr,Result.andThen_ok,h3,h4,and_self,if_true,run_sizeOf hm,kf]
 unfold cW at hv
 split at hv
 ·rename_i jW r oo k q hb sV
  split at hv
  ·rename_i hq
   simp at hv;subst hv
   rw[hb]at hr;rw[sV]at DD
   obtain⟨B,h,hB,hk⟩:=iA hr
   refine⟨_,go _ _ k q h (dq DD) hq.1 hq.2,?_⟩
   rw[Nat.add_assoc]
   exact .ptr _ _ _ _ hB hk
  ·simp at hv
 ·rename_i cs k q hb sV
  split at hv
  ·rename_i hq
   simp at hv;subst hv
   rw[hb]at hr;rw[sV]at DD
   obtain⟨b,oo,vs,h,h1,h2,h3,h4⟩:=kY hr
   refine⟨_,go _ _ k q h (dq DD) hq.1 hq.2,.eM _ _ (.di _ _ _ (fun j=>vs (q.toNat*(m+1)+j)) h1 (fun a ha=>h2 a (List.mem_of_mem_drop ha)) (fun j hj=>?_) (fun j a ha=>h4 _ _ (by simpa using ha)))⟩
   rw[Nat.add_assoc]
   exact h3 _ (by simp at hj;omega)
  ·simp at hv
 ·simp at hv
theorem Ps {x i:Operand} {x' i':O} {t:TypeId} (E:cq P w D ι env a) (ho:o.op=.index t x i) (ht:P.underlying t=some .string) (hx:cO P x=some x') (hi:cO P i=some i')
  (hv:cY (cQ env x') (cQ env i')=some v):ox P a o w D ι v:=by
 have hr:=dj E hx
 have DD:=dj E hi
 unfold cY at hv
 split at hv
 ·rename_i s k q hb sV
  split at hv
  ·rename_i hq
   simp only[Option.map_eq_some_iff]at hv
   obtain⟨c,hc,rfl⟩:=hv
   rw[hb]at hr;rw[sV]at DD
   refine⟨_,?_,.eM _ _ (.int _ _)⟩
   simp only[execOp,ho,fC hr,dq DD,Instr.index,asIntOf,Sem.run_bind,Sem.run_pure,run_underlying ht,Result.andThen_ok,hq,if_true,hc]
  ·simp at hv
 ·simp at hv
theorem Pr {x i:Operand} {x' i':O} {t e:TypeId} {ag:Bool} {len n:Nat} (E:cq P w D ι env a) (ho:o.op=.index t x i) (ht:P.underlying t=some (.array len e)) (uN:nR P e=some ag) (hn:dY P e=some n) (hx:cO P x=some x') (hi:cO P i=some i')
  (hv:cX ag len n (cQ env x') (cQ env i')=some v):ox P a o w D ι v:=by
 have hr:=dj E hx
 have DD:=dj E hi
 unfold cX at hv
 split at hv
 ·rename_i cs k q hb sV
  split at hv
  ·rename_i hq
   rw[hb]at hr;rw[sV]at DD
   obtain⟨vs,f,h,n1,fl,f1,r1⟩:=iP hr
   have go:∀u,(Go.part e vs (q.toNat*n)).run P w=.ok u w->(execOp a.eval o).run P w=.ok (.value u) w:=fun u hu=>by
    simp only[execOp,ho,h,dq DD,Instr.index,asIntOf,Sem.run_bind,Sem.run_pure,run_underlying ht,Result.andThen_ok,hq,and_self,if_true,run_sizeOf hn,hu]
   unfold part at hv
   cases ag with
   |true=>
    simp only[if_true]at hv
    split at hv
    ·rename_i hl
     simp at hv;subst hv
     simp only[List.length_drop]at hl
     by_cases Hy:n=0
     ·subst Hy
      refine⟨_,go _ (pH uN hn),.agg _ _ (fun _=>undef) (by simp) (fun a ha=>by simp at ha) (fun j hj=>by simp at hj) (fun j a ha=>by simp at ha)⟩
     refine⟨_,go _ (pH uN hn),.agg _ _ (fun j=>f (q.toNat*n+j)) (by simp[n1];omega) (fun a ha=>fl a (List.mem_of_mem_drop (List.mem_of_mem_take ha))) (fun j hj=>?_) (fun j a ha=>?_)⟩
     ·simp at hj
      rw[Array.getElem?_extract,if_pos (by omega)];exact f1 _ (by omega)
     ·rw[List.getElem?_take]at ha
      split at ha
      ·exact r1 _ _ (by simpa using ha)
      ·simp at ha
    ·simp at hv
   |false=>
    simp only[Bool.false_eq_true,if_false]at hv
    have nW:cs[q.toNat*n]? =some v:=by simpa[List.head?_drop]using hv
    have dS:=(List.getElem?_eq_some_iff.1 nW).1
    exact⟨_,go _ (mD uN (f1 _ dS)),r1 _ _ nW⟩
  ·simp at hv
 ·simp at hv
theorem Hs {x:Operand} {x':O} {i:Nat} (E:cq P w D ι env a) (ho:o.op=.extract x i) (hx:cO P x=some x') (hv:aO i (cQ env x')=some v):ox P a o w D ι v:=by
 have hr:=dj E hx
 unfold aO at hv
 split at hv
 ·rename_i vs hb
  rw[hb]at hr
  obtain⟨us,f,h,h1,h2,h3⟩:=uY hr
  have dS:=(List.getElem?_eq_some_iff.1 hv).1
  exact⟨_,by simp only[execOp,ho,h,Instr.extract,h2 _ dS];rfl,h3 _ _ hv⟩
 ·simp at hv
theorem R4 {x:Operand} {x':O} {t:TypeId} {e:TypeId} {n:Nat} (E:cq P w D ι env a) (ho:o.op=.call {callee:=.builtin .len,args:= #[x],argTypes:= #[t]}) (ht:P.underlying t=some (.slice e)) (hx:cO P x=some x') (hv:eh (cQ env x')=some n):ox P a o w D ι (.int .i64 n):=by
 have hr:=dj E hx
 have go:∀A c,a.eval x=.slice A n c->(execOp a.eval o).run P w=.ok (.value (.int .i64 n)) w:=fun A c h=>by
  simp only[execOp,ho,resolve,Sem.run_bind,Sem.run_pure,Result.andThen_ok,invoke,builtin,Array.map,h]
  simp[Builtin.len_,run_underlying ht,goInt,h]
 refine⟨.int .i64 n,?_,.eM _ _ (.int _ _)⟩
 unfold eh at hv
 split at hv<;>simp at hv<;>subst hv<;>rename_i hb<;>rw[hb]at hr
 ·exact go _ _ (kd hr)
 ·obtain⟨A,c,h,_⟩:=w6 hr;exact go _ _ h
 ·obtain⟨oo,cap,B,h,_⟩:=iQ hr;exact go _ _ h
theorem Pu {x:Operand} {x':O} {t:TypeId} (E:cq P w D ι env a) (ho:o.op=.call {callee:=.builtin .len,args:= #[x],argTypes:= #[t]}) (ht:P.underlying t=some .string) (hx:cO P x=some x') (hv:da (cQ env x')=some v):ox P a o w D ι v:=by
 have hr:=dj E hx
 unfold da at hv
 split at hv
 ·rename_i s hb
  simp at hv;subst hv
  rw[hb]at hr
  have h:=fC hr
  refine⟨_,?_,.eM _ _ (.int _ _)⟩
  simp only[execOp,ho,resolve,Sem.run_bind,Sem.run_pure,Result.andThen_ok,invoke,builtin,Array.map,h]
  simp[Builtin.len_,run_underlying ht,goInt,h]
 ·simp at hv
theorem nq {isS:Bool} {len cap h l:Nat} {lo hi:Option Operand} {M7 qW:Option O} (E:cq P w D ι env a) (ki:rC P lo=some M7) (CL:rC P hi=some qW) (hh:dQ len (qW.map (cQ env))=some h) (hl:dR h (M7.map (cQ env))=some l) (hc:len<=cap):
  (Instr.sliceBounds isS len cap (lo.map a.eval) (hi.map a.eval) none).run P w=.ok (l,h,cap) w/\l<=h/\h<=len:=by
 have bound:∀(x:Operand) (y:O) (k:IntKind) (n:Int) (m:Nat) (c:BoundsCode),cO P x=some y->cQ env y=.int k n->0<=n->n<=m->(Instr.sliceBound (a.eval x) m c).run P w=.ok n.toNat w:=fun x y k n m c hx hy h0 h1=>by
  have hr:=dj E hx
  rw[hy]at hr
  simp only[Instr.sliceBound,dq hr,asIntOf,Sem.run_bind,Sem.run_pure,Result.andThen_ok,h0,h1,and_self,if_true]
 have H:h<=len/\((hi=none/\h=len)∨∃x,hi=some x/\∀c,(Instr.sliceBound (a.eval x) cap c).run P w=.ok h w):=by
  cases hi with
  |none=>
   simp[rC]at CL;subst CL
   simp[dQ]at hh;subst hh
   exact⟨Nat.le_refl _,.inl ⟨rfl,rfl⟩⟩
  |some x=>
   simp only[rC,Option.map_eq_some_iff]at CL
   obtain⟨y,hy,rfl⟩:=CL
   simp only[Option.map_some,dQ]at hh
   split at hh
   ·rename_i e;cases e
   ·rename_i k n e
    injection e with e
    split at hh
    ·rename_i hn
     simp at hh;subst hh
     exact⟨by omega,.inr ⟨x,rfl,fun c=>bound x y k n _ _ hy e hn.1 (by omega)⟩⟩
    ·simp at hh
   ·simp at hh
 have L:l<=h/\((lo=none/\l=0)∨∃x,lo=some x/\∀c,(Instr.sliceBound (a.eval x) h c).run P w=.ok l w):=by
  cases lo with
  |none=>
   simp[rC]at ki;subst ki
   simp[dR]at hl;subst hl
   exact⟨Nat.zero_le _,.inl ⟨rfl,rfl⟩⟩
  |some x=>
   simp only[rC,Option.map_eq_some_iff]at ki
   obtain⟨y,hy,rfl⟩:=ki
   simp only[Option.map_some,dR]at hl
   split at hl
   ·rename_i e;cases e
   ·rename_i k n e
    injection e with e
    split at hl
    ·rename_i hn
     simp at hl;subst hl
     exact⟨by omega,.inr ⟨x,rfl,fun c=>bound x y k n h _ hy e hn.1 hn.2⟩⟩
    ·simp at hl
   ·simp at hl
 refine⟨?_,L.1,H.1⟩
 unfold Instr.sliceBounds
 rcases H.2 with⟨rfl,rfl⟩|⟨x,rfl,hx⟩<;>rcases L.2 with⟨rfl,rfl⟩|⟨y,rfl,hy⟩<;>
  simp only[Option.map_none,Option.map_some,Sem.run_bind,Sem.run_pure,Result.andThen_ok, *]
theorem Mz {x:Operand} {x':O} {lo hi:Option Operand} {M7 qW:Option O} {t e:TypeId} {m:Nat} (S:gw P hs D ι g w) (E:cq P w D ι env a) (ho:o.op=.slice t x lo hi none) (ht:P.underlying t=some (.slice e)) (hm:dY P e=some m) (hx:cO P x=some x') (ki:rC P lo=some M7) (CL:rC P hi=some qW)
  (hv:bQ g m (cQ env x') (M7.map (cQ env)) (qW.map (cQ env))=some v):ox P a o w D ι v:=by
 have hr:=dj E hx
 have go:∀A len cap l h,a.eval x=.slice A len cap->(Instr.sliceBounds true len cap (lo.map a.eval) (hi.map a.eval) none).run P w=.ok (l,h,cap) w->(execOp a.eval o).run P w=.ok (.value (.slice (if cap=l then A else A.map (·.add (l*m))) (h-l) (cap-l))) w:=fun A len cap l h h1 h2=>by
  simp only[execOp,ho,h1,Instr.sliceAt,Instr.slice,Sem.run_bind,Sem.run_pure,run_underlying ht,Result.andThen_ok,Option.map_none,h2,run_sizeOf hm]
 unfold bQ at hv
 split at hv
 ·rename_i hb
  rw[hb]at hr
  simp only[Option.bind_eq_some_iff,Option.map_eq_some_iff]at hv
  obtain⟨h,hh,l,hl,rfl⟩:=hv
  obtain⟨q,q1,q2⟩:=nq (w:=w) (isS:=true) (cap:=0) E ki CL hh hl (Nat.le_refl _)
  have h0:h=0:=by omega
  have l0:l=0:=by omega
  subst h0;subst l0
  refine⟨_,go _ _ _ _ _ (kd hr) q,?_⟩
  simp;exact .eM _ _ .cm
 ·rename_i rows hb
  rw[hb]at hr
  simp only[Option.bind_eq_some_iff,Option.map_eq_some_iff]at hv
  obtain⟨h,hh,l,hl,hv⟩:=hv
  split at hv
  ·rename_i dI
   simp at hv;subst hv
   obtain⟨A,c,he,c1,c2,h3⟩:=w6 hr
   obtain⟨q,q1,q2⟩:=nq (w:=w) (isS:=true) (cap:=c) E ki CL hh hl c1
   refine⟨_,go _ _ _ _ _ he q,.eM _ _ ?_⟩
   have hlen:((rows.drop l).take (h-l)).length=h-l:=by simp;omega
   by_cases hz:h-l=0
   ·have:(rows.drop l).take (h-l)=[]:=by rw[hz];simp
    rw[this,hz]
    exact .AU _ _ (by omega)
   ·rcases h3 with h3|⟨b,oo,sz,vs,rfl,hD,KK,fl,hc,hi⟩
    ·subst h3;simp at q2;omega
    rw[if_neg (by omega)]
    simp only[Option.map_some,kf]
    have BF:sz=m:=by
     have dS:l<rows.length:=by omega
     have:=dI rows[l] (List.getElem_mem dS)
     rw[<-this,KK _ (List.getElem_mem dS)]
    subst BF
    refine .sl _ b _ _ _ sz (fun i j=>vs (l+i) j) hlen (by omega) (by omega) hD (fun cs du=>KK cs (List.mem_of_mem_drop (List.mem_of_mem_take du))) (fun cs du=>fl cs (List.mem_of_mem_drop (List.mem_of_mem_take du))) (fun i j hi hj=>?_) (fun i j cs a du ha=>?_)
    ·rw[<-hc (l+i) j (by omega) hj,Nat.add_mul]
     congr 2;omega
    ·rw[List.getElem?_take]at du
     split at du
     ·exact hi _ _ _ _ (by simpa using du) ha
     ·simp at du
  ·simp at hv
 ·rename_i jW off len hb
  rw[hb]at hr
  simp only[Option.bind_eq_some_iff,Option.map_eq_some_iff]at hv
  obtain⟨r,CK,h,hh,l,hl,hv⟩:=hv
  split at hv
  ·rename_i yE
   simp at hv;subst hv
   obtain⟨oo,cap,B,he,hB,h1,h2,h3,h4,hk⟩:=iQ hr
   obtain⟨B',dz,R,_,_⟩:=S.row _ _ CK
   rw[hB]at dz;injection dz with dz;subst dz
   replace R:=R.row hk
   have fj:B.sz=m:=R.sz.trans yE
   obtain⟨q,q1,q2⟩:=nq (w:=w) (isS:=true) (cap:=cap) E ki CL hh hl h1
   refine⟨_,go _ _ _ _ _ he q,?_⟩
   have e1:(off+l+(cap-l))*B.sz<=B.C:=by rw[show off+l+(cap-l)=off+cap by omega];exact h3
   by_cases nS:cap=l
   ·rw[if_pos nS]
    exact .own _ _ _ _ _ B hB hk (by omega) (.inl (by omega)) e1 (by omega)
   ·rw[if_neg nS]
    simp only[Option.map_some,kf]
    have CH:oo=off*B.sz:=by rcases h2 with h2|h2<;>omega
    exact .own _ _ _ _ _ B hB hk (by omega) (.inr (by rw[CH,fj,Nat.add_mul])) e1 (by omega)
  ·simp at hv
 ·simp at hv
theorem Kw {x:Operand} {x':O} {lo hi:Option Operand} {M7 qW:Option O} {t:TypeId} (E:cq P w D ι env a) (ho:o.op=.slice t x lo hi none) (ht:P.underlying t=some .string) (hx:cO P x=some x') (ki:rC P lo=some M7) (CL:rC P hi=some qW)
  (hv:bf (cQ env x') (M7.map (cQ env)) (qW.map (cQ env))=some v):ox P a o w D ι v:=by
 have hr:=dj E hx
 unfold bf at hv
 split at hv
 ·rename_i s hb
  rw[hb]at hr
  simp only[Option.bind_eq_some_iff,Option.map_eq_some_iff]at hv
  obtain⟨h,hh,l,hl,rfl⟩:=hv
  obtain⟨q,_,_⟩:=nq (w:=w) (isS:=false) E ki CL hh hl (Nat.le_refl _)
  refine⟨_,?_,.eM _ _ (.str _)⟩
  simp only[execOp,ho,fC hr,Instr.sliceAt,Instr.slice,Sem.run_bind,Sem.run_pure,run_underlying ht,Result.andThen_ok,Option.map_none,Option.isSome_none,Bool.false_eq_true,if_false,q]
 ·simp at hv
theorem D8 {xs:List Operand} {ys:List O} (E:cq P w D ι env a) (h:xs.mapM (cO P)=some ys):(xs.map a.eval).length=ys.length/\∀j y,ys[j]? =some y->cI P w D ι (cQ env y) ((xs.map a.eval).getD j undef):=by
 induction xs generalizing ys with
 |nil=>simp at h;subst h;simp
 |cons x r ih=>
  simp only[List.mapM_cons,Option.bind_eq_bind,Option.bind_eq_some_iff]at h
  obtain⟨c,hc,qb,du,h⟩:=h
  simp at h;subst h
  obtain⟨h1,h2⟩:=ih du
  refine⟨by simpa using h1,fun j d hd=>?_⟩
  cases j with
  |zero=>simp at hd ⊢;subst hd;exact dj E hc
  |succ j=>simp at hd ⊢;simpa using h2 j d hd
theorem Px {f:Nat} {first cL:Array Operand} {Bf:List O} (E:cq P w D ι env a) (ho:o.op=.makeFunc (.func f) first cL) (hf:first= #[]) (hc:fI P f=true) (hx:cL.toList.mapM (cO P)=some Bf):ox P a o w D ι (.fn f (Bf.map (cQ env))):=by
 subst hf
 obtain⟨h1,h2⟩:=D8 E hx
 refine⟨.func (.func f) #[] (cL.map a.eval),by simp only[execOp,ho,Instr.makeFunc,Sem.run_bind,Sem.run_pure,Result.andThen_ok];simp,.fn _ _ _ (fun j=>(cL.toList.map a.eval).getD j undef) hc (by simpa using h1) (fun j hj=>?_) (fun j x P6=>?_)⟩
 ·simp at hj h1
  have:j<cL.size:=by omega
  simp[this]
 ·simp only[List.getElem?_map,Option.map_eq_some_iff]at P6
  obtain⟨y,hy,rfl⟩:=P6
  exact h2 j y hy
theorem Py {f:Nat} {first cL:Array Operand} {Bf:List O} (E:cq P w D ι env a) (ho:o.op=.makeFunc (.func f) first cL) (hf:cL= #[]) (hc:fI P f=true) (hx:first.toList.mapM (cO P)=some Bf):ox P a o w D ι (.tY f (Bf.map (cQ env))):=by
 subst hf
 obtain⟨h1,h2⟩:=D8 E hx
 refine⟨.func (.func f) (first.map a.eval) #[],by simp only[execOp,ho,Instr.makeFunc,Sem.run_bind,Sem.run_pure,Result.andThen_ok];simp,.tY _ _ _ (fun j=>(first.toList.map a.eval).getD j undef) hc (by simpa using h1) (fun j hj=>?_) (fun j x P6=>?_)⟩
 ·simp at hj h1
  have:j<first.size:=by omega
  simp[this]
 ·simp only[List.getElem?_map,Option.map_eq_some_iff]at P6
  obtain⟨y,hy,rfl⟩:=P6
  exact h2 j y hy
end
end Go.Proofs.YtgoelphibofcmaaGreat.V

namespace Go.Proofs.YtgoelphibofcmaaGreat.V
open Go.RowKit
variable {P:Program} {w w':World} {D D':Nat->Prop} {ι ι':Names}
def Mk (P:Program) (a:Act) (o:Oper) (w:World) (D:Nat->Prop) (ι:Names) (id:Id) (v:AV) (r:Row):Prop:=
 ∃u cells T,(execOp a.eval o).run P w=.ok (.value u) (w.alloc (.cells cells T))/\r.w=true/\r.rows.length*r.sz<=cells.size/\(∀cs∈r.rows,cs.length=r.sz)/\(∀cs∈r.rows,∀a∈cs,a.cell=true)/\
  (∀i j cs a,r.rows[i]? =some cs->cs[j]? =some a->∃x,cells[i*r.sz+j]? =some x/\cI P w D ι a x)/\∀ι':Names,ι' id=some ⟨w.heap.size,r.sz,cells.size,none⟩->cI P w D ι' v u
section
variable {g:Rows} {hs:Nat} {env:Env} {a:Act} {o:Oper} {id:Id} {v:AV}
theorem kL {vs:List Value} {cs:List K} (h:vs.mapM GA=some cs):fe P w D ι (cs.map K.av) vs.toArray:=by
 obtain⟨h1,h2⟩:=rT h
 refine⟨by simp[h1],fun j a ha=>?_⟩
 simp only[List.getElem?_map,Option.map_eq_some_iff]at ha
 obtain⟨c,hc,rfl⟩:=ha
 exact⟨c.val,by simpa using h2 j c hc,wZ c⟩
theorem jV {t:TypeId} {z:List K} (h:jH P t=some z):∃i v,P.info? t=some i/\i.zero=some v/\v.cells.size=i.size/\v.cells.toList.mapM GA=some z/\z.length=i.size:=by
 unfold jH at h
 split at h
 ·rename_i i hi
  split at h
  ·rename_i v hv
   split at h
   ·rename_i hs
    exact⟨i,v,hi,hv,hs,h,by rw[(rT h).1];simpa using hs⟩
   ·simp at h
  ·simp at h
 ·simp at h
theorem Fx {cs:List AV} {cells:Array Value} (h:fe P w D ι cs cells):∀i j c a,[cs][i]? =some c->c[j]? =some a->∃x,cells[i*cs.length+j]? =some x/\cI P w D ι a x:=by
 intro i j c a hi hj
 cases i with
 |zero=>simp at hi;subst hi;simpa using h.2 j a hj
 |succ i=>simp at hi
theorem Rz {t:TypeId} {z:List K} (ho:o.op=.alloc t) (hz:jH P t=some z):Mk P a o w D ι id (.ptr id 0 0) ⟨true,z.length,[z.map K.av]⟩:=by
 obtain⟨i,v,hi,hv,hs,hm,hl⟩:=jV hz
 have hk:=kL (P:=P) (w:=w) (D:=D) (ι:=ι) hm
 refine⟨.pointer (some ⟨w.heap.size,0,none⟩),v.cells,t,?_,rfl,?_,?_,?_,?_,?_⟩
 ·simp only[execOp,ho,Instr.alloc,zeroValue,typeInfo,Sem.run_bind]
  simp[hi,hv,newVar,newRow]
 ·simp[hl,hs]
 ·intro cs du;simp at du;subst du;simp
 ·intro cs du x hx;simp at du;subst du
  obtain⟨c,_,rfl⟩:=List.mem_map.1 hx;exact c.mU
 ·have:=Fx hk;simpa using this
 ·intro ι' hι
  have:=cI.ptr (P:=P) (w:=w) (D:=D) (ι:=ι') id 0 0 _ hι rfl
  simpa using this
theorem qR {x:AV} {u:Value} (h:cI P w D ι x u) (hc:x.cells.all AV.cell=true):fe P w D ι x.cells u.cells:=by
 obtain⟨h1,f,h2,h3⟩:=h.cells hc
 exact⟨h1,fun j a ha=>⟨f j,h2 j (List.getElem?_eq_some_iff.1 ha).1,h3 j a ha⟩⟩
theorem Rx {t:TypeId} {x:Operand} {x':O} {cs:List AV} (E:cq P w D ι env a) (ho:o.op=.box t x) (hx:cO P x=some x') (hb:cR (cQ env x')=some cs):Mk P a o w D ι id (.ptr id 0 0) ⟨true,cs.length,[cs]⟩:=by
 have hr:=dj E hx
 unfold cR at hb
 split at hb
 ·rename_i dI
  simp at hb;subst hb
  have hk:=qR hr dI
  refine⟨.pointer (some ⟨w.heap.size,0,none⟩),(a.eval x).cells,t,?_,rfl,?_,?_,?_,?_,?_⟩
  ·simp only[execOp,ho,Instr.box,Sem.run_bind]
   simp[newVar,newRow]
  ·simp[hk.1]
  ·intro cs du;simp at du;subst du;rfl
  ·intro cs du y hy;simp at du;subst du
   exact List.all_eq_true.1 dI y hy
  ·exact Fx hk
  ·intro ι' hι
   have:=cI.ptr (P:=P) (w:=w) (D:=D) (ι:=ι') id 0 0 _ hι rfl
   simpa using this
 ·simp at hb
theorem foldl_set:∀(vs:List Value) (n off:Nat) (cells:Array Value),off+n+vs.length<=cells.size->((vs.zipIdx n).foldl (fun cs (x:Value×Nat)=>cs.setIfInBounds (off+x.2) x.1) cells).size=cells.size/\
  ∀k,((vs.zipIdx n).foldl (fun cs (x:Value×Nat)=>cs.setIfInBounds (off+x.2) x.1) cells)[k]? =if off+n<=k/\k<off+n+vs.length then vs[k-(off+n)]? else cells[k]?
 |[],n,off,cells,_=>⟨rfl,fun k=>by simp;intro h1 h2;omega⟩
 |v::r,n,off,cells,h=>by
  simp only[List.length_cons]at h
  obtain⟨h1,h2⟩:=foldl_set r (n+1) off (cells.setIfInBounds (off+n) v) (by simp;omega)
  simp only[List.zipIdx_cons,List.foldl_cons]
  refine⟨by rw[h1];simp,fun k=>?_⟩
  rw[h2 k]
  simp only[List.length_cons]
  by_cases hk:k=off+n
  ·subst hk
   rw[if_neg (by omega),if_pos (by omega)]
   simp[show off+n<cells.size by omega]
  ·by_cases wi:off+n<=k/\k<off+n+(r.length+1)
   ·rw[if_pos (by omega),if_pos wi]
    have:k-(off+n)=(k-(off+(n+1)))+1:=by omega
    rw[this,List.getElem?_cons_succ]
   ·rw[if_neg (by omega),if_neg wi,Array.getElem?_setIfInBounds_ne (by omega)]
theorem vU (place:Nat->Option (Nat×Nat)):∀(ps:List (Nat×Value)) (qs:List (Nat×Nat×AV)) (cells:Array Value) (cs res:List AV),fe P w D ι cs cells->(∀a∈cs,a.cell=true)->ps.length=qs.length->
  (∀(k:Nat) i u o' n x,ps[k]? =some (i,u)->qs[k]? =some (o',n,x)->place i=some (o',n)/\cI P w D ι x u)->cG cs qs=some res->∃jq,Instr.fill place cells ps=some jq/\fe P w D ι res jq/\(∀a∈res,a.cell=true)/\res.length=cs.length:=by
 intro ps
 induction ps with
 |nil=>
  intro qs cells cs res hR hf hl _ hv
  cases qs with
  |nil=>simp[cG]at hv;subst hv;exact⟨cells,rfl,hR,hf,rfl⟩
  |cons q r=>simp at hl
 |cons p ps ih=>
  intro qs cells cs res hR hf hl hp hv
  cases qs with
  |nil=>simp at hl
  |cons q qs=>
   obtain⟨i,u⟩:=p
   obtain⟨oo,n,x⟩:=q
   obtain⟨l8,hr⟩:=hp 0 i u oo n x rfl rfl
   unfold cG at hv
   split at hv
   ·rename_i hc
    obtain⟨c1,c2,c3⟩:=hc
    have hk:=qR hr c3
    have hus:u.cells.size=n:=by rw[hk.1,c1]
    have du:cells.size=cs.length:=hR.1
    unfold Instr.fill
    simp only[l8]
    rw[if_neg (by rw[hus,du];simp;omega)]
    obtain⟨s1,s2⟩:=foldl_set u.cells.toList 0 oo cells (by simp;omega)
    have e0:(u.cells.zipIdx.foldl (fun cs (x:Value×Nat)=>cs.setIfInBounds (oo+x.2) x.1) cells)=(u.cells.toList.zipIdx 0).foldl (fun cs (x:Value×Nat)=>cs.setIfInBounds (oo+x.2) x.1) cells:=by
     rw[<-Array.foldl_toList];simp
    have rK:=ih qs (u.cells.zipIdx.foldl (fun cs (x:Value×Nat)=>cs.setIfInBounds (oo+x.2) x.1) cells) (cs.take oo++x.cells++cs.drop (oo+n)) res ?_ ?_ (by simpa using hl) (fun k i u o' n x h1 h2=>hp (k+1) i u o' n x (by simpa using h1) (by simpa using h2)) hv
    ·obtain⟨jq,h1,h2,h3,h4⟩:=rK
     refine⟨jq,h1,h2,h3,?_⟩
     rw[h4];simp;omega
    ·rw[e0]
     refine⟨by rw[s1,du];simp;omega,fun j a ha=>?_⟩
     rw[s2 j]
     simp only[Nat.add_zero,Array.length_toList]
     by_cases hj:oo<=j/\j<oo+u.cells.size
     ·rw[if_pos hj]
      rw[List.append_assoc,List.getElem?_append_right (by simp;omega),List.getElem?_append_left (by simp;omega)]at ha
      simp only[List.length_take]at ha
      rw[show min oo cs.length=oo by omega]at ha
      simpa using hk.2 _ _ ha
     ·rw[if_neg hj]
      by_cases Up:j<oo
      ·rw[List.append_assoc,List.getElem?_append_left (by simp;omega),List.getElem?_take,if_pos Up]at ha
       exact hR.2 _ _ ha
      ·rw[List.getElem?_append_right (by simp;omega)]at ha
       simp only[List.length_append,List.length_take,List.getElem?_drop]at ha
       rw[show oo+n+(j-(min oo cs.length+x.cells.length))=j by omega]at ha
       exact hR.2 _ _ ha
    ·intro b hb
     rcases List.mem_append.1 hb with hb|hb
     ·rcases List.mem_append.1 hb with hb|hb
      ·exact hf b (List.mem_of_mem_take hb)
      ·exact List.all_eq_true.1 c3 b hb
     ·exact hf b (List.mem_of_mem_drop hb)
   ·simp at hv
theorem xN {fs:List Field} (h:∀f∈fs,(P.info? f.type).isSome=true):∃Ae,fs.mapM (fun f=>(P.info? f.type).map fun i=>(f.offset,i.size))=some Ae/\∀(i:Nat) (f:Field) (n:Nat),fs[i]? =some f->dY P f.type=some n->Ae[i]? =some (f.offset,n):=by
 induction fs with
 |nil=>exact⟨[],rfl,fun i f n h=>by simp at h⟩
 |cons f r ih=>
  obtain⟨q,h1,h2⟩:=ih (fun x hx=>h x (List.mem_cons_of_mem _ hx))
  obtain⟨i,hi⟩:=Option.isSome_iff_exists.1 (h f (by simp))
  refine⟨(f.offset,i.size)::q,by simp[hi,h1],fun k x n hk hn=>?_⟩
  cases k with
  |zero=>simp at hk;subst hk;simp[dY,hi]at hn;subst hn;rfl
  |succ k=>simp at hk ⊢;exact h2 k x n hk hn
theorem ql {ps:List (Nat×Operand)} {l:List (Nat×O)} (E:cq P w D ι env a) (h:ps.mapM (fun(x:Nat×Operand)=>(cO P x.2).map (x.1,·))=some l):l.length=ps.length/\∀(k i:Nat) (y:O),l[k]? =some (i,y)->∃x,ps[k]? =some (i,x)/\cO P x=some y:=by
 induction ps generalizing l with
 |nil=>simp at h;subst h;simp
 |cons p r ih=>
  simp only[List.mapM_cons,Option.bind_eq_bind,Option.bind_eq_some_iff]at h
  obtain⟨c,hc,qb,du,h⟩:=h
  simp at h;subst h
  obtain⟨h1,h2⟩:=ih du
  simp only[Option.map_eq_some_iff]at hc
  obtain⟨y,hy,rfl⟩:=hc
  refine⟨by simp[h1],fun k i z hk=>?_⟩
  cases k with
  |zero=>simp at hk;obtain⟨rfl,rfl⟩:=hk;exact⟨p.2,rfl,hy⟩
  |succ k=>simp at hk ⊢;exact h2 k i z hk
theorem C6 {fs:Array Field} {l:List (Nat×O)} {q:List (Nat×Nat×O)} (h:sL P fs l=some q):q.length=l.length/\∀(k oo n:Nat) (y:O),q[k]? =some (oo,n,y)->∃(i:Nat) (f:Field),l[k]? =some (i,y)/\fs[i]? =some f/\f.offset=oo/\dY P f.type=some n:=by
 induction l generalizing q with
 |nil=>simp[sL]at h;subst h;simp
 |cons p r ih=>
  obtain⟨i,x⟩:=p
  unfold sL at h
  split at h
  ·rename_i f hf
   split at h
   ·rename_i n hn
    simp only[Option.map_eq_some_iff]at h
    obtain⟨q',LD,rfl⟩:=h
    obtain⟨h1,h2⟩:=ih LD
    refine⟨by simp[h1],fun k oo m y hk=>?_⟩
    cases k with
    |zero=>simp at hk;obtain⟨rfl,rfl,rfl⟩:=hk;exact⟨i,f,rfl,hf,rfl,hn⟩
    |succ k=>simp only[List.getElem?_cons_succ]at hk ⊢;exact h2 k oo m y hk
   ·simp at h
  ·simp at h
theorem fe.agg {xs:List AV} {vs:Array Value} (h:fe P w D ι xs vs) (hf:∀a∈xs,a.cell=true):cI P w D ι (.agg xs) (.agg vs):=
 .agg xs vs (fun j=>vs.getD j undef) h.1 hf (fun j hj=>by
  have:j<vs.size:=by rw[h.1];exact hj
  simp[this]) (fun j a ha=>by
  obtain⟨u,h1,h2⟩:=h.2 j a ha
  simpa[Array.getD_eq_getD_getElem?,h1]using h2)
theorem Mv {t:TypeId} {ps:Array (Nat×Operand)} {fs:Array Field} {z:List K} {l:List (Nat×O)} {q:List (Nat×Nat×O)} {cs:List AV} (E:cq P w D ι env a) (ho:o.op=.build t ps) (ht:P.underlying t=some (.struct fs)) (hz:jH P t=some z) (hl:sO P ps=some l)
  (rJ:∀f∈fs.toList,(P.info? f.type).isSome=true) (hq:sL P fs l=some q) (hv:cG (z.map K.av) (q.map fun(o,n,x)=>(o,n,cQ env x))=some cs):ox P a o w D ι (.agg cs):=by
 obtain⟨it,zv,hi,qJ,hs,hm,Fo⟩:=jV hz
 obtain⟨Ae,l8,UN⟩:=xN rJ
 have hk:=kL (P:=P) (w:=w) (D:=D) (ι:=ι) hm
 obtain⟨n1,r1⟩:=ql E hl
 obtain⟨n2,r2⟩:=C6 hq
 obtain⟨jq,h1,h2,h3,_⟩:=vU (P:=P) (w:=w) (D:=D) (ι:=ι) (Ae.toArray[·]?) (ps.toList.map fun(i,x)=>(i,a.eval x)) (q.map fun(o,n,x)=>(o,n,cQ env x)) zv.cells _ cs (by simpa using hk)
  (fun b hb=>by obtain⟨c,_,rfl⟩:=List.mem_map.1 hb;exact c.mU) (by simp[n2,n1]) (fun k i u o' n x xC wi=>by
   simp only[List.getElem?_map,Option.map_eq_some_iff]at xC wi
   obtain⟨⟨i',x'⟩,hp,e1⟩:=xC
   obtain⟨⟨o2,n',y⟩,LD,e2⟩:=wi
   simp only[Prod.mk.injEq]at e1 e2
   obtain⟨rfl,rfl⟩:=e1
   obtain⟨rfl,rfl,rfl⟩:=e2
   obtain⟨i2,f,IP,hf,rfl,hn⟩:=r2 _ _ _ _ LD
   obtain⟨x2,yG,hc⟩:=r1 _ _ _ IP
   rw[hp]at yG
   simp only[Option.some.injEq,Prod.mk.injEq]at yG
   obtain⟨rfl,rfl⟩:=yG
   exact⟨by simpa using UN _ _ _ (by simpa using hf) hn,dj E hc⟩) hv
 refine⟨.agg jq,?_,h2.agg h3⟩
 have hb:P.built t ((ps.map fun(i,x)=>(i,a.eval x)).toList)=some jq:=by
  unfold Program.built
  simp only[hi,ht,qJ,l8]
  simpa using h1
 simp only[execOp,ho,Sem.run_bind,run_build w t _ _ hb,Result.andThen_ok,Sem.run_pure]
theorem Kv {t e:TypeId} {len n:Nat} {ps:Array (Nat×Operand)} {z:List K} {l:List (Nat×O)} {cs:List AV} (E:cq P w D ι env a) (ho:o.op=.build t ps) (ht:P.underlying t=some (.array len e)) (hz:jH P t=some z) (hl:sO P ps=some l) (hn:dY P e=some n)
  (hv:cG (z.map K.av) ((l.map fun(x:Nat×O)=>(x.1*n,n,x.2)).map fun(o,n,x)=>(o,n,cQ env x))=some cs):ox P a o w D ι (.agg cs):=by
 obtain⟨it,zv,hi,qJ,hs,hm,Fo⟩:=jV hz
 have hk:=kL (P:=P) (w:=w) (D:=D) (ι:=ι) hm
 obtain⟨n1,r1⟩:=ql E hl
 obtain⟨ie,Hw,fj⟩:∃ie,P.info? e=some ie/\ie.size=n:=by simpa[dY]using hn
 obtain⟨jq,h1,h2,h3,_⟩:=vU (P:=P) (w:=w) (D:=D) (ι:=ι) (fun i=>some (i*ie.size,ie.size)) (ps.toList.map fun(i,x)=>(i,a.eval x)) ((l.map fun(x:Nat×O)=>(x.1*n,n,x.2)).map fun(o,n,x)=>(o,n,cQ env x)) zv.cells _ cs (by simpa using hk)
  (fun b hb=>by obtain⟨c,_,rfl⟩:=List.mem_map.1 hb;exact c.mU) (by simp[n1]) (fun k i u o' n' x xC wi=>by
   simp only[List.getElem?_map,Option.map_eq_some_iff]at xC wi
   obtain⟨⟨i',x'⟩,hp,e1⟩:=xC
   obtain⟨⟨o2,n2,y⟩,⟨⟨i2,y2⟩,IP,e3⟩,e2⟩:=wi
   simp only[Prod.mk.injEq]at e1 e2 e3
   obtain⟨rfl,rfl⟩:=e1
   obtain⟨rfl,rfl,rfl⟩:=e2
   obtain⟨rfl,rfl,rfl⟩:=e3
   obtain⟨x2,yG,hc⟩:=r1 _ _ _ IP
   rw[hp]at yG
   simp only[Option.some.injEq,Prod.mk.injEq]at yG
   obtain⟨rfl,rfl⟩:=yG
   exact⟨by rw[fj],dj E hc⟩) hv
 refine⟨.agg jq,?_,h2.agg h3⟩
 have hb:P.built t ((ps.map fun(i,x)=>(i,a.eval x)).toList)=some jq:=by
  unfold Program.built
  simp only[hi,ht,qJ,Hw]
  simpa using h1
 simp only[execOp,ho,Sem.run_bind,run_build w t _ _ hb,Result.andThen_ok,Sem.run_pure]
theorem vQ:∀(vs:List AV) (sz i:Nat) (rs:List (List AV)) (cs:List AV),0<sz->cs.length=(i+vs.length)*sz->rowsOf sz vs=some rs->
  cG cs ((vs.zipIdx i).map fun(v,j)=>(j*sz,sz,v))=some (cs.take (i*sz)++rs.flatten)/\rs.length=vs.length/\(∀c∈rs,c.length=sz)/\∀c∈rs,∀x∈c,x.cell=true
 |[],sz,i,rs,cs,_,hl,h=>by
  simp[rowsOf]at h;subst h
  simp at hl
  simp[cG,List.take_of_length_le (show cs.length<=i*sz by omega)]
 |v::r,sz,i,rs,cs,fj,hl,h=>by
  simp only[rowsOf,Option.bind_eq_some_iff,Option.map_eq_some_iff]at h
  obtain⟨c,hc,rs',yE,rfl⟩:=h
  unfold rowOf at hc
  split at hc
  ·rename_i zN
   simp at hc;subst hc
   obtain⟨qd,Gj⟩:=zN
   simp only[List.length_cons]at hl
   have hmul:(i+(r.length+1))*sz=i*sz+sz+r.length*sz:=by rw[Nat.add_mul,Nat.add_mul];omega
   have ih:=vQ r sz (i+1) rs' (cs.take (i*sz)++v.cells++cs.drop (i*sz+sz)) fj (by
    simp[qd];rw[Nat.add_mul,Nat.add_mul];omega) yE
   refine⟨?_,by simp[ih.2.1],?_,?_⟩
   ·simp only[List.zipIdx_cons,List.map_cons,cG]
    rw[if_pos ⟨qd,by omega,Gj⟩,ih.1]
    congr 1
    rw[List.flatten_cons,<-List.append_assoc]
    congr 1
    rw[Nat.add_mul,Nat.one_mul,List.take_append_of_le_length (by simp[qd];omega)]
    rw[List.take_of_length_le (by simp[qd];omega)]
   ·intro c' kN;rcases List.mem_cons.1 kN with rfl|kN
    ·exact qd
    ·exact ih.2.2.1 c' kN
   ·intro c' kN;rcases List.mem_cons.1 kN with rfl|kN
    ·exact List.all_eq_true.1 Gj
    ·exact ih.2.2.2 c' kN
  ·simp at hc
theorem flat_get {α:Type} {oG:List (List α)} {sz:Nat} (h:∀cs∈oG,cs.length=sz) {i j:Nat} {cs:List α} {a:α} (hi:oG[i]? =some cs) (hj:cs[j]? =some a):oG.flatten[i*sz+j]? =some a:=by
 induction oG generalizing i with
 |nil=>simp at hi
 |cons c r ih=>
  have hc:c.length=sz:=h c (by simp)
  cases i with
  |zero=>
   simp at hi;subst hi
   have dS:=(List.getElem?_eq_some_iff.1 hj).1
   rw[List.flatten_cons,List.getElem?_append_left (by omega)];simpa using hj
  |succ i=>
   rw[List.flatten_cons,List.getElem?_append_right (by rw[hc,Nat.succ_mul];omega)]
   have:(i+1)*sz+j-c.length=i*sz+j:=by rw[hc,Nat.succ_mul];omega
   rw[this]
   exact ih (fun cs du=>h cs (List.mem_cons_of_mem _ du)) (by simpa using hi)
theorem Ir {α:Type} {oG:List (List α)} {sz:Nat} (h:∀cs∈oG,cs.length=sz):oG.flatten.length=oG.length*sz:=by
 induction oG with
 |nil=>simp
 |cons c r ih=>
  rw[List.flatten_cons,List.length_append,h c (by simp),ih (fun cs du=>h cs (List.mem_cons_of_mem _ du)),List.length_cons,Nat.succ_mul];omega
theorem pj {zv:Value} {z:List K} {n:Nat} (hm:zv.cells.toList.mapM GA=some z) (jN:0<z.length):∀k,k<n->∃c,z[k % z.length]? =some c/\((Array.range n).map (zv.cells[· % zv.cells.size]!))[k]? =some c.val:=by
 intro k hk
 obtain⟨h1,h2⟩:=rT hm
 have fj:zv.cells.size=z.length:=by simpa using h1.symm
 have dS:k % z.length<z.length:=Nat.mod_lt _ jN
 refine⟨z[k % z.length],List.getElem?_eq_getElem dS,?_⟩
 have h3:=h2 _ _ (List.getElem?_eq_getElem dS)
 simp only[Array.getElem?_toList]at h3
 have BE:k % z.length<zv.cells.size:=by rw[fj];exact dS
 rw[Array.getElem?_map,Array.getElem?_range,if_pos hk]
 simp only[Option.map_some]
 rw[fj,getElem!_pos zv.cells (k % z.length) BE]
 rw[Array.getElem?_eq_getElem BE]at h3
 exact h3
theorem Jo {t e:TypeId} {len sz:Nat} {ps:Array (Nat×Operand)} {z:List K} {l:List (Nat×O)} {rs:List (List AV)} (E:cq P w D ι env a) (ho:o.op=.buildSlice t len ps) (ht:P.underlying t=some (.slice e)) (fj:dY P e=some (sz+1)) (hz:jH P e=some z)
  (hl:sO P ps=some l) (LF:len*(sz+1)<=4096) (Rb:l.map (·.1)=List.range len) (hv:rowsOf (sz+1) (l.map fun x=>cQ env x.2)=some rs):Mk P a o w D ι id (.own id 0 len) ⟨true,sz+1,rs⟩:=by
 obtain⟨it,zv,hi,qJ,hs,hm,Fo⟩:=jV hz
 have jD:it.size=sz+1:=by simpa[dY,hi]using fj
 obtain⟨n1,r1⟩:=ql E hl
 have Fc:l.length=len:=by have:=congrArg List.length Rb;simpa using this
 by_cases h0:len=0
 ·subst h0
  have MU:l=[]:=List.length_eq_zero_iff.1 Fc
  subst MU
  simp[rowsOf]at hv;subst hv
  have SO:ps= #[]:=by
   apply Array.ext';apply List.eq_nil_of_length_eq_zero;rw[<-n1];rfl
  subst SO
  refine⟨.slice (some ⟨w.heap.size,0,none⟩) 0 0, #[],e,?_,rfl,by simp,by simp,by simp,fun i j cs x hi=>by simp at hi,fun ι' hι=>?_⟩
  ·simp[execOp,ho,Instr.buildSlice,run_underlying ht,sizeOf,typeInfo,hi,Instr.fill,newRow,Array.range_zero']
  ·exact .own _ 0 0 0 0 _ hι rfl (Nat.le_refl _) (.inl rfl) (by simp) (by simp[maxLen])
 ·have yH:fe P w D ι ((List.range (len*(sz+1))).map fun k=>(z.getD (k % z.length) .cm).av) ((Array.range (len*(sz+1))).map (zv.cells[· % zv.cells.size]!)):=by
   refine⟨by simp,fun j x hx=>?_⟩
   simp only[List.getElem?_map,Option.map_eq_some_iff]at hx
   obtain⟨k,hk,rfl⟩:=hx
   have l7:=(List.getElem?_eq_some_iff.1 hk).1
   simp at l7
   rw[List.getElem?_range l7]at hk
   injection hk with hk
   subst hk
   obtain⟨c,hc,Sz⟩:=pj hm (by rw[Fo,jD];omega) j l7
   exact⟨c.val,Sz,by rw[List.getD_eq_getElem?_getD,hc];exact wZ c⟩
  obtain⟨f1,f2,f3,f4⟩:=vQ (l.map fun x=>cQ env x.2) (sz+1) 0 rs ((List.range (len*(sz+1))).map fun k=>(z.getD (k % z.length) .cm).av) (by omega) (by simp[Fc]) hv
  obtain⟨jq,h1,h2,h3,h4⟩:=vU (P:=P) (w:=w) (D:=D) (ι:=ι) (fun i=>some (i*it.size,it.size)) (ps.toList.map fun(i,x)=>(i,a.eval x)) _ _ _ _ yH
   (fun b hb=>by obtain⟨c,_,rfl⟩:=List.mem_map.1 hb;exact K.mU _) (by simp[n1]) (fun k i u o' n x xC wi=>by
   simp only[List.getElem?_map,Option.map_eq_some_iff]at xC wi
   obtain⟨⟨i',x'⟩,hp,e1⟩:=xC
   obtain⟨⟨v2,j2⟩,LD,e2⟩:=wi
   simp only[Prod.mk.injEq]at e1 e2
   obtain⟨rfl,rfl⟩:=e1
   obtain⟨rfl,rfl,rfl⟩:=e2
   rw[List.getElem?_zipIdx]at LD
   simp only[List.getElem?_map,Option.map_map,Option.map_eq_some_iff,Function.comp_apply,Prod.mk.injEq,Nat.zero_add]at LD
   obtain⟨⟨i2,y⟩,IP,rfl,rfl⟩:=LD
   obtain⟨x2,yG,hc⟩:=r1 _ _ _ IP
   rw[hp]at yG
   simp only[Option.some.injEq,Prod.mk.injEq]at yG
   obtain⟨rfl,rfl⟩:=yG
   have yz:(l.map (·.1))[k]? =some i':=by rw[List.getElem?_map,IP];rfl
   have l7:=(List.getElem?_eq_some_iff.1 yz).1
   rw[Rb]at yz
   simp at l7
   rw[List.getElem?_range (by omega)]at yz
   injection yz with yz
   subst yz
   exact⟨by rw[jD],dj E hc⟩) f1
  simp only[Nat.zero_mul,List.take_zero,List.nil_append,List.length_map]at h2 h3 h4 f2
  have du:jq.size=len*(sz+1):=by rw[h2.1,h4];simp
  refine⟨.slice (some ⟨w.heap.size,0,none⟩) len len,jq,e,?_,rfl,?_,f3,f4,fun i j cs x qW hj=>h2.2 _ _ (flat_get f3 qW hj),fun ι' hι=>?_⟩
  ·have gh:=run_buildSlice (P:=P) w t e len (ps.map fun(i,x)=>(i,a.eval x)) jq it zv ht hi qJ (by rw[jD];omega) (by rw[jD];exact Nat.mul_ne_zero h0 (by omega)) (by rw[<-jD]at h1;simpa using h1)
   simp only[execOp,ho,Sem.run_bind,gh,Result.andThen_ok,Sem.run_pure]
  ·dsimp only;rw[f2,Fc,du];exact Nat.le_refl _
  ·refine .own _ 0 len 0 len _ hι rfl (Nat.le_refl _) (.inr (by simp)) ?_ (by simp only[maxLen];have:=Nat.le_mul_of_pos_right len (show 0<sz+1 by omega);omega)
   dsimp only;rw[du];simp
theorem GL {t e:TypeId} {it:TypeInfo} {m:Nat} {z:List K} {l c:Operand} {l' c':O} {n:Nat} {r:Row} (E:cq P w D ι env a) (ho:o.op=.makeSlice t l c) (ht:P.underlying t=some (.slice e)) (fj:dY P e=some (m+1)) (hz:jH P e=some z) (Lr:P.info? e=some it) (hby:it.bytes<=32768)
  (hl:cO P l=some l') (hc:cO P c=some c') (hv:ij z (cQ env l') (cQ env c')=some (n,r)):Mk P a o w D ι id (.own id 0 n) r:=by
 obtain⟨it',zv,hi,qJ,hs,hm,Fo⟩:=jV hz
 rw[Lr]at hi;injection hi with hi;subst hi
 have jD:it.size=m+1:=by simpa[dY,Lr]using fj
 unfold ij at hv
 split at hv
 ·rename_i k1 ln k2 cn e1 e2
  split at hv
  ·rename_i hb
   obtain⟨b1,b2,b3⟩:=hb
   simp at hv
   obtain⟨rfl,rfl⟩:=hv
   have r1:=dq (e1▸dj E hl)
   have r2:=dq (e2▸dj E hc)
   unfold dE at b3
   have MN:(it.bytes:Int)*cn<=281474976710656:=by
    have h1:(it.bytes:Int)<=32768:=by omega
    have h2:(it.bytes:Int)*cn<=32768*16777216:=Int.mul_le_mul h1 (by omega) (by omega) (by omega)
    omega
   have gh:=run_make (P:=P) w t e it zv ht Lr qJ k1 k2 ln cn b1 b2 MN (by omega)
   have ko:∀k,k<cn.toNat*it.size->∃x,z[k % z.length]? =some x/\(madeCells zv.cells (cn.toNat*it.size))[k]? =some x.val:=fun k hk=>pj hm (by rw[Fo,jD];omega) k hk
   refine⟨.slice (some ⟨w.heap.size,0,none⟩) ln.toNat cn.toNat,madeCells zv.cells (cn.toNat*it.size),e,by simp only[execOp,ho,r1,r2,Sem.run_bind,gh,Result.andThen_ok,Sem.run_pure],rfl,?_,?_,?_,?_,fun ι' hι=>?_⟩
   ·simp only[List.length_replicate,size_madeCells,Fo]
    exact Nat.mul_le_mul_right _ (by omega)
   ·intro cs du
    have:=List.eq_of_mem_replicate du
    subst this;simp
   ·intro cs du x hx
    have:=List.eq_of_mem_replicate du
    subst this
    obtain⟨c,_,rfl⟩:=List.mem_map.1 hx;exact c.mU
   ·intro i j cs x qW hj
    have lE:=(List.getElem?_eq_some_iff.1 qW).1
    have:=List.eq_of_mem_replicate (List.mem_of_getElem? qW)
    subst this
    simp only[List.length_replicate]at lE
    simp only[List.getElem?_map,Option.map_eq_some_iff]at hj
    obtain⟨q,hq,rfl⟩:=hj
    have gZ:=(List.getElem?_eq_some_iff.1 hq).1
    dsimp only
    obtain⟨x,hx,yG⟩:=ko (i*z.length+j) (by
     rw[<-Fo]
     calc i*z.length+j<i*z.length+z.length:=by omega
      _=(i+1)*z.length:=by rw[Nat.add_mul,Nat.one_mul]
      _<=cn.toNat*z.length:=Nat.mul_le_mul_right _ (by omega))
    rw[Nat.mul_comm i,Nat.mul_add_mod,Nat.mod_eq_of_lt gZ,hq]at hx
    injection hx with hx;subst hx
    exact⟨_,by rw[Nat.mul_comm i]at yG ⊢;exact yG,wZ q⟩
   ·refine .own _ 0 _ 0 _ _ hι rfl (by omega) (.inr (by simp)) ?_ (by simp only[maxLen];omega)
    dsimp only;rw[size_madeCells,Fo];simp
  ·simp at hv
 ·simp at hv
end
end Go.Proofs.YtgoelphibofcmaaGreat.V

namespace Go.Proofs.YtgoelphibofcmaaGreat.V
open Go.RowKit
variable {P:Program} {w w':World} {D D':Nat->Prop} {ι ι':Names}
def EH (P:Program) (k:TypeId) (m:MK):Prop:=
 (∃s,m=⟨false,[s]⟩/\fm P k=some s)∨
 (∃fs ts,m=⟨true,ts⟩/\P.underlying k=some (.struct fs)/\eI P 4 0 fs.toList=some ts/\P.stoodInHeld k=false/\∀f∈fs.toList,(fm P f.type).isSome=true)
theorem rz {t:TypeId} {m:MK} {z:K} (h:sN P t=some (m,z)):∃k e i zv,P.underlying t=some (.map k e)/\P.info? e=some i/\i.zero=some zv/\GA zv=some z/\EH P k m:=by
 unfold sN at h
 split at h
 ·rename_i k e ht
  split at h
  ·rename_i zv s h1 h2 h3
   simp only[Option.map_eq_some_iff,Prod.mk.injEq]at h
   obtain⟨z',hz,rfl,rfl⟩:=h
   simp only[Option.bind_eq_some_iff]at h2
   obtain⟨i,hi,qJ⟩:=h2
   exact⟨k,e,i,zv,ht,hi,qJ,hz,.inl ⟨s,rfl,h3⟩⟩
  ·rename_i zv fs h1 h2 h3 h4
   split at h
   ·rename_i ts z' xS hz
    split at h
    ·rename_i hc
     simp only[Option.some.injEq,Prod.mk.injEq]at h
     obtain⟨rfl,rfl⟩:=h
     simp only[Option.bind_eq_some_iff]at h2
     obtain⟨i,hi,qJ⟩:=h2
     simp only[Bool.not_eq_true',List.all_eq_true]at hc
     exact⟨k,e,i,zv,ht,hi,qJ,hz,.inr ⟨fs,ts,rfl,h4,xS,hc.1,hc.2⟩⟩
    ·cases h
   ·cases h
  ·cases h
 ·cases h
theorem w8 {t:TypeId} {s:TS} (ht:fm P t=some s) (em:Bool) (n:Nat) (v:Value):(Instr.checkKey em (n+1) t v).run P w=.ok () w:=by
 unfold Instr.checkKey
 cases s with
 |tB=>simp[run_underlying (pI ht)]
 |tS=>simp[run_underlying (pK ht)]
 |tI=>
  obtain⟨q,hq⟩:=pJ ht
  simp[run_underlying hq]
theorem xb (em:Bool) (n:Nat) (vs:Array Value):∀(d:Nat) (fs:List Field) (off:Nat) (ts:List TS),eI P (d+1) off fs=some ts->(∀f∈fs,(fm P f.type).isSome=true)->off+ts.length<=vs.size->
  Sem.run P (forIn fs PUnit.unit fun f (_:PUnit)=>if f.name≠ "_" then do
    let x <-Go.part f.type vs f.offset
    Instr.checkKey em (n+1) f.type x
    pure (ForInStep.yield PUnit.unit)
   else pure (ForInStep.yield PUnit.unit)) w=Result.ok PUnit.unit w
 |d,[],off,ts,_,_,_=>by simp
 |d,f::r,off,ts,hf,hs,hl=>by
  rw[yq]at hf
  split at hf
  ·rename_i hcond
   obtain⟨ho,gW⟩:=hcond
   split at hf
   ·rename_i s P3
    split at hf
    ·rename_i uN
     simp only[Option.map_eq_some_iff]at hf
     obtain⟨Nf,hr,rfl⟩:=hf
     simp only[List.length_cons]at hl
     have ih:=xb em n vs d r (off+1) Nf hr (fun f hf=>hs f (List.mem_cons_of_mem _ hf)) (by omega)
     have hu:vs[off]? =some vs[off]:=by simp
     simp only[List.forIn_cons,Sem.run_bind,if_pos gW,ho,mD uN hu,Result.andThen_ok,w8 P3,Sem.run_pure]
     exact ih
    ·cases hf
   ·rename_i hn
    have:=hs f (by simp)
    rw[hn]at this;cases this
  ·cases hf
theorem Ee {k:TypeId} {m:MK} (hk:EH P k m) (em:Bool) (key:AV) (u:Value) (uN:key.isAgg=m.ka) (hlen:key.cells.length=m.ks) (hr:cI P w D ι key u):(Instr.checkKey em 10000 k u).run P w=.ok () w:=by
 rcases hk with⟨s,rfl,hs⟩|⟨fs,ts,rfl,rJ,xS,dF,dI⟩
 ·exact w8 hs em 9999 u
 ·cases key<;>simp[AV.isAgg]at uN
  rename_i cs
  obtain⟨vs,f,rfl,h1,_⟩:=iP hr
  unfold Instr.checkKey
  simp only[Sem.run_bind,run_underlying rJ,Result.andThen_ok]
  rw[<-Array.forIn_toList]
  have h:=xb (P:=P) (w:=w) em 9998 vs 3 fs.toList 0 ts xS dI (by simp[AV.cells,MK.ks]at hlen;omega)
  rw[h]
  rfl
theorem HW (a b:ByteArray):(a==b)=decide (a=b):=by
 by_cases h:a=b
 ·subst h;rw[decide_eq_true rfl]
  obtain⟨x⟩:=a
  show(x==x)=true
  simp
 ·rw[decide_eq_false h,Bool.eq_false_iff]
  intro hc
  obtain⟨x⟩:=a
  obtain⟨y⟩:=b
  exact h (by rw[show x=y by simpa using(show(x==y)=true from hc)])
theorem JX {t:TypeId} {s:TS} {x y:AV} {u v:Value} {b:Bool} {d:TypeDesc} (ht:fm P t=some s) (hd:P.underlying t=some d) (he:fU s x y=some b) (hx:cI P w D ι x u) (hy:cI P w D ι y v):Instr.sameNow d u v=some b:=by
 unfold fU at he
 split at he
 ·rename_i k n k' n'
  split at he
  ·rename_i hk
   subst hk
   simp at he;subst he
   obtain⟨q,hq⟩:=pJ ht
   rw[hd]at hq;injection hq with hq;subst hq
   rw[dq hx,dq hy]
   simp[Instr.sameNow]
   rfl
  ·cases he
 ·simp at he;subst he
  have hq:=pI ht
  rw[hd]at hq;injection hq with hq;subst hq
  rw[e6 hx,e6 hy];rfl
 ·rename_i a c
  simp at he;subst he
  have hq:=pK ht
  rw[hd]at hq;injection hq with hq;subst hq
  rw[fC hx,fC hy]
  simp only[Instr.sameNow,HW]
 ·cases he
def Found (es:List MapEntry) (i:Nat) (r:Option Nat) (res:Option (Nat×Value)):Prop:=(r=none/\res=none)∨∃j e,r=some (i+j)/\es[j]? =some e/\res=some (i+j,e.val)
theorem vY {e:MapEntry} {es:List MapEntry} {i:Nat} {r:Option Nat} {res:Option (Nat×Value)} (h:Found es (i+1) r res):Found (e::es) i r res:=by
 rcases h with h|⟨j,x,h1,h2,h3⟩
 ·exact .inl h
 ·exact .inr ⟨j+1,x,by rw[h1];congr 1;omega,by simpa using h2,by rw[h3];congr 2;omega⟩
theorem Bo {t:TypeId} {s:TS} {d:TypeDesc} {x:AV} {u:Value} (ht:fm P t=some s) (hd:P.underlying t=some d) (hx:cI P w D ι x u):∀(rows:List (List AV)) (es:List MapEntry) (i:Nat) (r:Option Nat),es.length=rows.length->
  (∀(j:Nat) (cs:List AV),rows[j]? =some cs->∃(e:MapEntry) (kv:AV),es[j]? =some e/\cs.head? =some kv/\cI P w D ι kv e.key)->gi ⟨false,[s]⟩ [x] rows i=some r->∃res,Instr.findNow d u es i=some res/\Found es i r res
 |[],[],i,r,_,_,h=>by
  simp[gi]at h;subst h
  exact⟨none,rfl,.inl ⟨rfl,rfl⟩⟩
 |[],e::es,i,r,hl,_,h=>by simp at hl
 |cs::rows,[],i,r,hl,_,h=>by simp at hl
 |cs::rows,e::es,i,r,hl,hr,h=>by
  obtain⟨e',kv,Lm,hk,gL⟩:=hr 0 cs rfl
  simp at Lm;subst Lm
  have du:cs.take (MK.ks ⟨false,[s]⟩)=[kv]:=by
   cases cs with
   |nil=>simp at hk
   |cons a l=>simp at hk;subst hk;simp[MK.ks]
  unfold gi at h
  rw[du]at h
  cases hq:fU s x kv with
  |none=>simp[eX,hq]at h
  |some b=>
   have hs:=JX ht hd hq hx gL
   cases b with
   |true=>
    simp[eX,hq]at h;subst h
    exact⟨some (i,e.val),by simp[Instr.findNow,hs],.inr ⟨0,e,rfl,rfl,rfl⟩⟩
   |false=>
    simp[eX,hq]at h
    obtain⟨res,h1,h2⟩:=Bo ht hd hx rows es (i+1) r (by simpa using hl) (fun j cs hj=>hr (j+1) cs (by simpa using hj)) h
    exact⟨res,by simp[Instr.findNow,hs,h1],vY h2⟩
theorem qf {t:TypeId} {fs:Array Field} {ts:List TS} {xs ys:List AV} {vs us:Array Value} {b:Bool} (rJ:P.underlying t=some (.struct fs)) (dF:P.stoodInHeld t=false) (xS:eI P 4 0 fs.toList=some ts) (hx:fe P w D ι xs vs) (hy:fe P w D ι ys us) (hv:eX ts xs ys=some b):(Op.equal t (.agg vs) (.agg us)).run P w=.ok b w:=by
 obtain⟨l1,l2⟩:=rH hv
 have q:=r8 (w:=w) 4 fs.toList 0 ts xS 9998 (by omega) xs ys vs us b hx hy (by simpa[List.take_of_length_le,l1,l2]using hv)
 have II:P.fieldsOf t=fs:=by simp[Program.fieldsOf,rJ]
 unfold Op.equal
 rw[show Op.maxDepth=9999+1 from rfl,run_equalIn_struct w 9999 t _ _ (by rw[II];exact rJ) dF,II,q]
theorem r5 {cs:List AV} {v:Value} (h:cI P w D ι (.agg cs) v):∃vs,v=.agg vs/\fe P w D ι cs vs:=by
 obtain⟨vs,f,rfl,n1,_,f1,r1⟩:=iP h
 exact⟨vs,rfl,n1,fun j a ha=>⟨f j,f1 j (List.getElem?_eq_some_iff.1 ha).1,r1 j a ha⟩⟩
theorem Bn {t:TypeId} {fs:Array Field} {ts:List TS} {xs:List AV} {vs:Array Value} (rJ:P.underlying t=some (.struct fs)) (dF:P.stoodInHeld t=false) (xS:eI P 4 0 fs.toList=some ts) (hx:fe P w D ι xs vs):∀(rows:List (List AV)) (es:List MapEntry) (i:Nat) (r:Option Nat),es.length=rows.length->
  (∀(j:Nat) (cs:List AV),rows[j]? =some cs->∃e:MapEntry,es[j]? =some e/\cI P w D ι (.agg (cs.take ts.length)) e.key)->gi ⟨true,ts⟩ xs rows i=some r->∃res,(Instr.findAsking t (.agg vs) es i).run P w=.ok res w/\Found es i r res
 |[],[],i,r,_,_,h=>by
  simp[gi]at h;subst h
  exact⟨none,by simp[Instr.findAsking],.inl ⟨rfl,rfl⟩⟩
 |[],e::es,i,r,hl,_,h=>by simp at hl
 |cs::rows,[],i,r,hl,_,h=>by simp at hl
 |cs::rows,e::es,i,r,hl,hr,h=>by
  obtain⟨e',Lm,gL⟩:=hr 0 cs rfl
  simp at Lm;subst Lm
  obtain⟨us,hk,hy⟩:=r5 gL
  unfold gi at h
  simp only[MK.ks]at h
  split at h
  ·rename_i hq
   simp at h;subst h
   have q:=qf rJ dF xS hx hy hq
   exact⟨some (i,e.val),by simp[Instr.findAsking,hk,q],.inr ⟨0,e,rfl,rfl,rfl⟩⟩
  ·rename_i hq
   have q:=qf rJ dF xS hx hy hq
   obtain⟨res,h1,h2⟩:=Bn rJ dF xS hx rows es (i+1) r (by simpa using hl) (fun j cs hj=>hr (j+1) cs (by simpa using hj)) h
   exact⟨res,by simp[Instr.findAsking,hk,q,h1],vY h2⟩
  ·cases h
theorem vM {a:AV} (h:a.isAgg=false):a.cells=[a]:=by cases a<;>simp_all [AV.isAgg,AV.cells]
theorem vV {k:TypeId} {m:MK} {B:sC} {r:Row} (hk:EH P k m) {key:AV} {u:Value} (hr:cI P w D ι key u) {es:Array MapEntry} (fj:es.size=r.rows.length)
  (hM:∀(i:Nat) (cs:List AV),r.rows[i]? =some cs->∃(e:MapEntry) (kv vv:AV),es[i]? =some e/\part m.ka m.ks cs=some kv/\cs[m.ks]? =some vv/\cI P w D ι kv e.key/\cI P w D ι vv e.val) {fi:Option Nat} (h:fM m key r.rows=some fi):
  (∀em,(Instr.checkKey em 10000 k u).run P w=.ok () w)/\∃res,(Instr.findKey k u es.toList).run P w=.ok res w/\Found es.toList 0 fi res:=by
 unfold fM at h
 split at h
 ·rename_i hc
  obtain⟨c1,c2,c3⟩:=hc
  refine⟨fun em=>Ee hk em key u c1 c2 hr,?_⟩
  rcases hk with⟨s,rfl,hs⟩|⟨fs,ts,rfl,rJ,xS,dF,dI⟩
  ·rw[vM c1]at h
   have hd:∃d,P.underlying k=some d:=by
    cases s with
    |tB=>exact⟨_,pI hs⟩
    |tS=>exact⟨_,pK hs⟩
    |tI=>obtain⟨q,hq⟩:=pJ hs;exact⟨_,hq⟩
   obtain⟨d,hd⟩:=hd
   obtain⟨res,h1,h2⟩:=Bo hs hd hr r.rows es.toList 0 fi (by simpa using fj) (fun j cs hj=>by
    obtain⟨e,kv,vv,q1,q2,_,q4,_⟩:=hM j cs hj
    exact⟨e,kv,by simpa using q1,by simpa[part]using q2,q4⟩) h
   exact⟨res,by simp[Instr.findKey,run_underlying hd,h1],h2⟩
  ·cases key<;>simp[AV.isAgg]at c1
   rename_i cs
   obtain⟨vs,rfl,hL⟩:=r5 hr
   obtain⟨res,h1,h2⟩:=Bn rJ dF xS hL r.rows es.toList 0 fi (by simpa using fj) (fun j cs hj=>by
    obtain⟨e,kv,vv,q1,q2,_,q4,_⟩:=hM j cs hj
    unfold part at q2
    simp only[if_true]at q2
    split at q2
    ·simp only[Option.some.injEq]at q2;subst q2
     exact⟨e,by simpa using q1,q4⟩
    ·cases q2) h
   exact⟨res,(run_findKey_eq w (by simp[rJ]) _ _).trans h1,h2⟩
 ·cases h
section
variable {g:Rows} {hs:Nat} {env:Env} {a:Act} {o:Oper} {id:Id} {v:AV}
theorem z7 {m:MK} {x:AV} {u:Value} {p:Id×Row} (S:gw P hs D ι g w) (hr:cI P w D ι x u) (h:dV g m x=some p):∃B,u=.map (some B.b)/\g p.1=some p.2/\ι p.1=some B/\B.k=some (.map m)/\MD P w D ι B m p.2:=by
 unfold dV at h
 split at h
 ·rename_i i m'
  split at h
  ·rename_i hm
   subst hm
   simp only[Option.map_eq_some_iff]at h
   obtain⟨r,hg,rfl⟩:=h
   obtain⟨B,rfl,hB,hk⟩:=FA hr
   obtain⟨B',dz,R,_⟩:=S.row i r hg
   rw[hB]at dz;injection dz with dz;subst dz
   exact⟨B,rfl,hg,hB,hk,(R.map _ hk).2⟩
  ·cases h
 ·cases h
theorem Pw {t:TypeId} {x k:Operand} {ok:Bool} {m:MK} {z:K} {x' k':O} {mr:Option Row} (S:gw P hs D ι g w) (E:cq P w D ι env a) (ho:o.op=.lookup t x k ok) (hc:sN P t=some (m,z)) (hx:cO P x=some x') (hk:cO P k=some k')
  (hv:bD (.look m ok z) [cQ env x',cQ env k'] g id=some (v,mr)):mr=none/\ox P a o w D ι v:=by
 obtain⟨kt,e,i,zv,ht,hi,qJ,SI,hK⟩:=rz hc
 simp only[bD,Option.bind_eq_some_iff,Option.map_eq_some_iff,Prod.mk.injEq]at hv
 obtain⟨p,hp,fi,Gl,y,hy,rfl,rfl⟩:=hv
 obtain⟨B,hu,hg,hB,uM,es,clock,hb,fj,hlen,hM⟩:=z7 S (dj E hx) hp
 obtain⟨KE,res,hf,hF⟩:=vV (B:=B) hK (dj E hk) fj hM Gl
 have key:∃val,(match res with|some (_,v)=>(v,true)|none=>(zv,false))=(val,fi.isSome)/\cI P w D ι y val:=by
  rcases hF with⟨rfl,rfl⟩|⟨j,en,rfl,he,rfl⟩
  ·simp only[ec,Option.some.injEq]at hy;subst hy
   refine⟨zv,rfl,?_⟩
   rw[zU SI];exact wZ z
  ·simp only[ec,Option.bind_eq_some_iff,Nat.zero_add]at hy
   obtain⟨cs,du,hy⟩:=hy
   obtain⟨e',kv,vv,q1,_,q3,_,q5⟩:=hM _ cs du
   rw[hy]at q3;injection q3 with q3;subst q3
   have:e'=en:=by
    have h1:es.toList[j]? =some e':=by simpa using q1
    rw[he]at h1;injection h1 with h1;exact h1.symm
   subst this
   exact⟨_,rfl,q5⟩
 obtain⟨val,s7,lG⟩:=key
 have fu:(getObj B.b).run P w=.ok (.map es clock) w:=MapKept.run_getObj_map hb
 have hz:(zeroValue e).run P w=.ok zv w:=by simp[zeroValue,typeInfo,hi,qJ]
 refine⟨rfl,if ok then .tuple #[val,.bool fi.isSome]else val,?_,?_⟩
 ·simp only[execOp,ho,hu,Instr.lookup,Sem.run_bind,run_underlying ht,Result.andThen_ok,fu,Sem.run_pure,KE,hf]
  rcases hF with⟨rfl,rfl⟩|⟨j,en,rfl,he,rfl⟩
  ·simp only[Prod.mk.injEq]at s7
   simp[hz,s7.1]
  ·simp only[Prod.mk.injEq]at s7
   simp[s7.1]
 ·cases ok with
  |false=>exact lG
  |true=>
   refine .gJ _ _ (fun j=>if j=0 then val else .bool fi.isSome) rfl (fun j hj=>?_) (fun j b hj=>?_)
   ·have:j=0∨j=1:=by simp at hj;omega
    rcases this with rfl|rfl<;>rfl
   ·match j,hj with
    |0,hj=>simp at hj;subst hj;exact lG
    |1,hj=>simp at hj;subst hj;exact .eM _ _ (.bool _)
    |j+2,hj=>simp at hj
theorem Pz {t:TypeId} {x:Operand} {m:MK} {z:K} {x':O} {mr:Option Row} (S:gw P hs D ι g w) (E:cq P w D ι env a) (ho:o.op=.call {callee:=.builtin .len,args:= #[x],argTypes:= #[t]}) (hc:sN P t=some (m,z)) (hx:cO P x=some x')
  (hv:bD (.len m) [cQ env x'] g id=some (v,mr)):mr=none/\ox P a o w D ι v:=by
 obtain⟨kt,e,i,zv,ht,hi,qJ,SI,hK⟩:=rz hc
 simp only[bD,Option.map_eq_some_iff,Prod.mk.injEq]at hv
 obtain⟨p,hp,rfl,rfl⟩:=hv
 obtain⟨B,hu,hg,hB,uM,es,clock,hb,fj,hlen,hM⟩:=z7 S (dj E hx) hp
 have fu:(getObj B.b).run P w=.ok (.map es clock) w:=MapKept.run_getObj_map hb
 refine⟨rfl,.int .i64 (es.size:Int),?_,by rw[fj];exact .eM _ _ (.int _ _)⟩
 simp only[execOp,ho,resolve,Sem.run_bind,Sem.run_pure,Result.andThen_ok,invoke,builtin,Array.map,hu]
 simp[Builtin.len_,run_underlying ht,goInt,hu,fu]
def MkM (P:Program) (a:Act) (o:Oper) (w:World) (id:Id) (v:AV) (r:Row):Prop:=
 ∃m,(execOp a.eval o).run P w=.ok (.value (.map (some w.heap.size))) (w.alloc (.map #[] 0))/\v=.map id m/\r=⟨true,m.pG,[]⟩
theorem Ry {t:TypeId} {m:MK} (ho:o.op=.makeMap t none):MkM P a o w id (.map id m) ⟨true,m.pG,[]⟩:=by
 refine⟨m,?_,rfl,rfl⟩
 simp[execOp,ho,Instr.makeMap,go_sem]
def MkC (P:Program) (a:Act) (o:Oper) (w:World) (id:Id) (v:AV) (r:Row):Prop:=
 ∃n,(execOp a.eval o).run P w=.ok (.value (.chan (some w.heap.size))) (w.alloc (.chan n #[] false 0 0 false))/\v=.rE id/\r=⟨true,qu+n,[]⟩
theorem ON {t e:TypeId} {x:Operand} {x':O} {dir:ChanDir} {i:TypeInfo} {n:Nat} (E:cq P w D ι env a) (ho:o.op=.makeChan t x) (ht:P.underlying t=some (.chan dir e)) (hi:P.info? e=some i) (hb:i.bytes<=32768) (hx:cO P x=some x') (hn:db (cQ env x')=some n):MkC P a o w id (.rE id) ⟨true,qu+n,[]⟩:=by
 refine⟨n,?_,rfl,rfl⟩
 have hr:=dj E hx
 unfold db at hn
 split at hn
 ·rename_i k m hm
  rw[hm]at hr
  split at hn
  ·rename_i hc
   simp only[Option.some.injEq]at hn
   subst hn
   have Hx:((m.toNat:Nat):Int)=m:=by omega
   have dS:(i.bytes:Int)*(m.toNat:Nat)<=281474976710544:=by
    have h1:i.bytes*m.toNat<=32768*1048576:=Nat.mul_le_mul hb (by omega)
    have h2:((i.bytes*m.toNat:Nat):Int)<=281474976710544:=by omega
    rwa [Int.natCast_mul]at h2
   have h:=Conc.run_makeChan (P:=P) (w:=w) ht hi k m.toNat (by omega) dS
   rw[Hx]at h
   simp only[execOp,ho,dq hr,Sem.run_bind,h,Result.andThen_ok,Sem.run_pure]
  ·cases hn
 ·cases hn
theorem zA {x:AV} {u:Value} {i:Id} {r:Row} (S:gw P hs D ι g w) (hr:cI P w D ι x u) (hx:x=.rE i) (hg:g i=some r):∃B c,u=.chan (some B.b)/\ι i=some B/\B.k=some (.chan c)/\r.sz=qu+c/\HI P w D ι B c r:=by
 subst hx
 obtain⟨B,c,rfl,hB,hk⟩:=Mf hr
 obtain⟨B',dz,R,_⟩:=S.row i r hg
 rw[hB]at dz;injection dz with dz;subst dz
 exact⟨B,c,rfl,hB,hk,R.chan c hk⟩
theorem Pt {t e:TypeId} {dir:ChanDir} {x:Operand} {x':O} (S:gw P hs D ι g w) (E:cq P w D ι env a) (ho:o.op=.call {callee:=.builtin .len,args:= #[x],argTypes:= #[t]}) (ht:P.underlying t=some (.chan dir e)) (hx:cO P x=some x') (hv:cZ g (cQ env x')=some v):ox P a o w D ι v:=by
 have hr:=dj E hx
 unfold cZ at hv
 split at hv
 ·rename_i i he
  simp only[Option.map_eq_some_iff]at hv
  obtain⟨r,hg,rfl⟩:=hv
  obtain⟨B,c,hu,hB,hk,fj,buf,s,q,hb,KD,_⟩:=zA S hr he hg
  have fu:(getObj B.b).run P w=.ok (.chan c buf false s q false) w:=by simp[getObj,Sem.run,hb]
  refine⟨.int .i64 (buf.size:Int),?_,by rw[KD];exact .eM _ _ (.int _ _)⟩
  simp only[execOp,ho,resolve,Sem.run_bind,Sem.run_pure,Result.andThen_ok,invoke,builtin,Array.map,hu]
  simp[Builtin.len_,run_underlying ht,goInt,hu,fu]
 ·cases hv
end
end Go.Proofs.YtgoelphibofcmaaGreat.V

namespace Go.Proofs.YtgoelphibofcmaaGreat.V
open Go.RowKit
variable {P:Program} {w w':World} {D D':Nat->Prop} {ι ι':Names}
def KU (P:Program) (a:Act) (o:Oper) (w:World) (D:Nat->Prop) (ι:Names) (id:Id) (v:AV):Option Row->Prop
 |none=>ox P a o w D ι v
 |some r=>Mk P a o w D ι id v r∨MkM P a o w id v r∨MkC P a o w id v r
section
variable {g:Rows} {hs:Nat} {env:Env} {a:Act} {o:Oper} {id:Id} {v:AV}
theorem lq {x:Option AV} {mr:Option Row} (h:x.map (·,(none:Option Row))=some (v,mr)) (H:x=some v->ox P a o w D ι v):KU P a o w D ι id v mr:=by
 cases x with
 |none=>simp at h
 |some y=>simp at h;obtain⟨rfl,rfl⟩:=h;exact H rfl
theorem RI {neg:Bool} {t yt:TypeId} {x y:Operand} {vo:gz} {mr:Option Row} (ho:o.op=.binOp (if neg then .neq else .eql) t x y yt) (hc:sM P neg t x y=some vo) (hq:eP vo (cQ env) g id=some (v,mr)) (E:cq P w D ι env a):KU P a o w D ι id v mr:=by
 unfold sM at hc
 split at hc
 ·split at hc
  ·rename_i e ht
   simp only[Option.map_eq_some_iff]at hc
   obtain⟨x',hx,rfl⟩:=hc
   simp only[eP,ej,Bool.false_eq_true,if_false,Option.map_eq_some_iff,Prod.mk.injEq]at hq
   obtain⟨b,hb,rfl,rfl⟩:=hq
   exact Pp E ho ht hx hb
  ·simp at hc
 ·split at hc
  ·rename_i ht
   simp only[Option.map_eq_some_iff]at hc
   obtain⟨x',hx,rfl⟩:=hc
   simp only[eP,ej,if_true,Option.map_eq_some_iff,Prod.mk.injEq]at hq
   obtain⟨b,hb,rfl,rfl⟩:=hq
   exact Po E ho ht hx hb
  ·simp at hc
 ·split at hc
  ·rename_i ht
   simp only[Option.map_eq_some_iff]at hc
   obtain⟨x',hx,rfl⟩:=hc
   simp only[eP,Option.map_eq_some_iff,Prod.mk.injEq]at hq
   obtain⟨b,hb,rfl,rfl⟩:=hq
   exact R0 E ho ht hx hb
  ·simp at hc
 ·split at hc
  ·rename_i s hs
   simp only[Option.bind_eq_bind,Option.bind_eq_some_iff,Option.pure_def,Option.some.injEq]at hc
   obtain⟨x',hx,y',hy,rfl⟩:=hc
   simp only[eP,Option.map_eq_some_iff,Prod.mk.injEq]at hq
   obtain⟨b,hb,rfl,rfl⟩:=hq
   have BH:fm P t=some s:=by
    unfold Tr at hs
    split at hs
    ·rename_i s' h;simp at hs;subst hs;exact h
    ·split at hs
     ·split at hs
      ·simp at hs
      ·simp at hs
     ·simp at hs
   exact R3 E ho BH hx hy hb
  ·rename_i ts hs
   simp only[Option.bind_eq_bind,Option.bind_eq_some_iff,Option.pure_def,Option.some.injEq]at hc
   obtain⟨x',hx,y',hy,rfl⟩:=hc
   simp only[eP]at hq
   split at hq
   ·rename_i xs ys h1 h2
    simp only[Option.map_eq_some_iff,Prod.mk.injEq]at hq
    obtain⟨b,hb,rfl,rfl⟩:=hq
    unfold Tr at hs
    split at hs
    ·simp at hs
    ·split at hs
     ·rename_i fs rJ
      split at hs
      ·rename_i hg
       simp only[Option.map_eq_some_iff,Tg.ag.injEq]at hs
       obtain⟨Nf,xS,rfl⟩:=hs
       simp only[Bool.and_eq_true,Bool.not_eq_true']at hg
       exact RZ E ho rJ hg.1 hg.2 xS hx hy h1 h2 hb
      ·simp at hs
     ·simp at hs
   ·simp at hq
  ·simp at hc
theorem OX {c:Call} {vo:gz} {mr:Option Row} (ho:o.op=.call c) (hc:nC P c=some vo) (hq:eP vo (cQ env) g id=some (v,mr)) (S:gw P hs D ι g w) (E:cq P w D ι env a):KU P a o w D ι id v mr:=by
 unfold nC at hc
 split at hc
 ·rename_i kr
  split at hc
  ·rename_i x t h1 h2
   have hce:c={callee:=.builtin .len,args:= #[x],argTypes:= #[t]}:=by
    obtain⟨a,b,c⟩:=c
    simp only at h1 h2 kr
    subst kr
    congr
    ·exact Array.ext' h1
    ·exact Array.ext' h2
   rw[hce]at ho
   split at hc
   ·rename_i e ht
    simp only[Option.map_eq_some_iff]at hc
    obtain⟨x',hx,rfl⟩:=hc
    simp only[eP,Option.map_eq_some_iff,Prod.mk.injEq]at hq
    obtain⟨n,hn,rfl,rfl⟩:=hq
    exact R4 E ho ht hx hn
   ·rename_i ht
    simp only[Option.map_eq_some_iff]at hc
    obtain⟨x',hx,rfl⟩:=hc
    exact lq hq fun h=>Pu E ho ht hx h
   ·split at hc
    ·rename_i m z x' hm hx
     simp only[Option.some.injEq]at hc
     subst hc
     obtain⟨rfl,h⟩:=Pz (id:=id) S E ho hm hx hq
     exact h
    ·cases hc
   ·rename_i ht
    simp only[Option.map_eq_some_iff]at hc
    obtain⟨x',hx,rfl⟩:=hc
    exact lq hq fun h=>Pt S E ho ht hx h
   ·simp at hc
  ·simp at hc
 ·split at hc
  ·split at hc
   ·split at hc
    ·split at hc
     ·simp only[Option.bind_eq_bind,Option.bind_eq_some_iff,Option.pure_def,Option.some.injEq]at hc
      obtain⟨x',hx,y',hy,rfl⟩:=hc
      simp[eP]at hq
     ·simp at hc
    ·simp at hc
   ·simp at hc
  ·simp at hc
 ·split at hc
  ·split at hc
   ·split at hc
    ·simp only[Option.map_eq_some_iff]at hc
     obtain⟨x',hx,rfl⟩:=hc
     simp[eP]at hq
    ·simp at hc
   ·simp at hc
  ·simp at hc
 ·split at hc
  ·simp only[Option.map_eq_some_iff]at hc
   obtain⟨x',hx,rfl⟩:=hc
   simp[eP]at hq
  ·simp at hc
 ·simp only[Option.map_eq_some_iff]at hc
  obtain⟨x',hx,rfl⟩:=hc
  simp[eP]at hq
 ·split at hc
  ·split at hc
   ·simp only[Option.some.injEq]at hc
    subst hc
    simp[eP]at hq
   ·cases hc
  ·cases hc
 ·split at hc
  ·split at hc
   ·split at hc
    ·simp only[Option.bind_eq_bind,Option.bind_eq_some_iff,Option.pure_def,Option.some.injEq]at hc
     obtain⟨x',hx,y',hy,rfl⟩:=hc
     simp[eP]at hq
    ·simp at hc
   ·simp at hc
  ·simp at hc
 ·simp at hc
theorem y8 {vo:gz} {mr:Option Row} (hc:qV P o.op=some vo) (hq:eP vo (cQ env) g id=some (v,mr)) (S:gw P hs D ι g w) (E:cq P w D ι env a):KU P a o w D ι id v mr:=by
 unfold qV at hc
 split at hc
 ·rename_i ho
  simp only[Option.map_eq_some_iff]at hc
  obtain⟨x',hx,rfl⟩:=hc
  simp[eP]at hq;obtain⟨rfl,rfl⟩:=hq
  exact Nh E (.inl ho) hx
 ·rename_i ho
  simp only[Option.map_eq_some_iff]at hc
  obtain⟨x',hx,rfl⟩:=hc
  simp[eP]at hq;obtain⟨rfl,rfl⟩:=hq
  exact Nh E (.inr ho) hx
 ·rename_i ho
  simp only[Option.bind_eq_bind,Option.bind_eq_some_iff,Option.pure_def,Option.some.injEq]at hc
  obtain⟨c',h1,x',h2,y',h3,rfl⟩:=hc
  exact lq hq fun h=>PA E ho h1 h2 h3 h
 ·rename_i ho
  simp only[Option.map_eq_some_iff]at hc
  obtain⟨z,hz,rfl⟩:=hc
  simp only[eP,Option.some.injEq,Prod.mk.injEq]at hq
  obtain⟨rfl,rfl⟩:=hq
  exact .inl (Rz ho hz)
 ·rename_i ho
  simp only[Option.map_eq_some_iff]at hc
  obtain⟨x',hx,rfl⟩:=hc
  simp only[eP,Option.map_eq_some_iff,Prod.mk.injEq]at hq
  obtain⟨cs,du,rfl,rfl⟩:=hq
  exact .inl (Rx E ho hx du)
 ·rename_i ho
  simp only[Option.bind_eq_bind,Option.bind_eq_some_iff,Option.pure_def,Option.some.injEq]at hc
  obtain⟨ag,h1,n,h2,x',h3,rfl⟩:=hc
  exact lq hq fun h=>Pv S E ho h1 h2 h3 h
 ·rename_i ho
  simp only[Option.bind_eq_bind,Option.bind_eq_some_iff,Option.pure_def,Option.some.injEq]at hc
  obtain⟨n,h2,x',h3,y',h4,rfl⟩:=hc
  simp[eP]at hq
 ·rename_i ho
  simp only[Option.map_eq_some_iff]at hc
  obtain⟨x',hx,rfl⟩:=hc
  exact lq hq fun h=>RY E ho hx h
 ·rename_i op t x y yt ho
  unfold vG at hc
  split at hc
  ·exact RI (neg:=false) ho hc hq E
  ·exact RI (neg:=true) ho hc hq E
  ·simp only[Option.bind_eq_bind,Option.bind_eq_some_iff,Option.pure_def,Option.some.injEq]at hc
   obtain⟨x',h3,y',h4,rfl⟩:=hc
   exact lq hq fun h=>R7 (left:=true) E ho h3 h4 h
  ·simp only[Option.bind_eq_bind,Option.bind_eq_some_iff,Option.pure_def,Option.some.injEq]at hc
   obtain⟨x',h3,y',h4,rfl⟩:=hc
   exact lq hq fun h=>R7 (left:=false) E ho h3 h4 h
  ·rename_i n1 n2 n3 n4
   split at hc
   ·simp only[Option.bind_eq_bind,Option.bind_eq_some_iff,Option.pure_def,Option.some.injEq]at hc
    obtain⟨x',h3,y',h4,rfl⟩:=hc
    exact lq hq fun h=>RX E ho n1 n2 h3 h4 h
   ·simp only[Option.bind_eq_bind,Option.bind_eq_some_iff,Option.pure_def,Option.some.injEq]at hc
    obtain⟨x',h3,y',h4,rfl⟩:=hc
    exact lq hq fun h=>Pk E ho n1 n2 h3 h4 h
   ·simp at hc
 ·rename_i ho
  simp only[Option.map_eq_some_iff]at hc
  obtain⟨x',hx,rfl⟩:=hc
  exact lq hq fun h=>R6 E ho hx h
 ·rename_i ho
  simp only[Option.map_eq_some_iff]at hc
  obtain⟨x',hx,rfl⟩:=hc
  exact lq hq fun h=>R5 E ho hx h
 ·rename_i ho
  split at hc
  ·rename_i q k h1 h2
   simp only[Option.map_eq_some_iff]at hc
   obtain⟨x',hx,rfl⟩:=hc
   exact lq hq fun h=>Pm E ho h1 h2 hx h
  ·rename_i h1 h2
   simp only[Option.map_eq_some_iff]at hc
   obtain⟨x',hx,rfl⟩:=hc
   exact lq hq fun h=>by
    have hr:=dj E hx
    unfold cj at h
    split at h
    ·rename_i s hb
     simp at h;subst h
     rw[hb]at hr
     exact⟨.string s,by simp only[execOp,ho,fC hr,convert,Sem.run_bind,run_underlying h1,run_underlying h2,Result.andThen_ok,Sem.run_pure],.eM _ _ (.str _)⟩
    ·simp at h
  ·simp at hc
 ·rename_i ho
  split at hc
  ·rename_i e ht
   simp only[Option.bind_eq_bind,Option.bind_eq_some_iff,Option.pure_def,Option.some.injEq]at hc
   obtain⟨n,h1,x',h2,lo,h3,hi,h4,rfl⟩:=hc
   exact lq hq fun h=>Mz S E ho ht h1 h2 h3 h4 h
  ·rename_i ht
   simp only[Option.bind_eq_bind,Option.bind_eq_some_iff,Option.pure_def,Option.some.injEq]at hc
   obtain⟨x',h2,lo,h3,hi,h4,rfl⟩:=hc
   exact lq hq fun h=>Kw E ho ht h2 h3 h4 h
  ·simp at hc
 ·rename_i ho
  split at hc
  ·rename_i fs rJ
   split at hc
   ·rename_i f hf
    split at hc
    ·rename_i m hm
     simp only[Option.map_eq_some_iff]at hc
     obtain⟨x',hx,rfl⟩:=hc
     exact lq hq fun h=>Mw E ho rJ hf hm hx h
    ·simp at hc
   ·simp at hc
  ·simp at hc
 ·rename_i ho
  split at hc
  ·rename_i fs rJ
   split at hc
   ·rename_i f hf
    simp only[Option.bind_eq_bind,Option.bind_eq_some_iff,Option.pure_def,Option.some.injEq]at hc
    obtain⟨ag,h1,n,h2,x',h3,rfl⟩:=hc
    exact lq hq fun h=>Mx E ho rJ hf h1 h2 h3 h
   ·simp at hc
  ·simp at hc
 ·rename_i ho
  split at hc
  ·rename_i e ht
   split at hc
   ·rename_i m hm
    simp only[Option.bind_eq_bind,Option.bind_eq_some_iff,Option.pure_def,Option.some.injEq]at hc
    obtain⟨x',h1,i',h2,rfl⟩:=hc
    exact lq hq fun h=>My S E ho ht hm h1 h2 h
   ·simp at hc
  ·rename_i len e ht
   split at hc
   ·rename_i m hm
    simp only[Option.bind_eq_bind,Option.bind_eq_some_iff,Option.pure_def,Option.some.injEq]at hc
    obtain⟨x',h1,i',h2,rfl⟩:=hc
    exact lq hq fun h=>Pq E ho ht hm h1 h2 h
   ·simp at hc
  ·simp at hc
 ·rename_i ho
  split at hc
  ·rename_i ht
   simp only[Option.bind_eq_bind,Option.bind_eq_some_iff,Option.pure_def,Option.some.injEq]at hc
   obtain⟨x',h1,i',h2,rfl⟩:=hc
   exact lq hq fun h=>Ps E ho ht h1 h2 h
  ·rename_i len e ht
   simp only[Option.bind_eq_bind,Option.bind_eq_some_iff,Option.pure_def,Option.some.injEq]at hc
   obtain⟨ag,h0,n,h1,x',h2,i',h3,rfl⟩:=hc
   exact lq hq fun h=>Pr E ho ht h0 h1 h2 h3 h
  ·simp at hc
 ·rename_i ho
  simp only[Option.map_eq_some_iff]at hc
  obtain⟨x',hx,rfl⟩:=hc
  exact lq hq fun h=>Hs E ho hx h
 ·rename_i ho
  split at hc
  ·rename_i fs rJ
   split at hc
   ·rename_i z l hz hl
    split at hc
    ·rename_i dI
     simp only[Option.map_eq_some_iff]at hc
     obtain⟨q,LD,rfl⟩:=hc
     simp only[eP,Option.map_eq_some_iff,Prod.mk.injEq]at hq
     obtain⟨cs,du,rfl,rfl⟩:=hq
     exact Mv E ho rJ hz hl (fun f hf=>by
      rw[Array.all_eq_true_iff_forall_mem]at dI
      exact dI f (Array.mem_toList_iff.1 hf)) LD du
    ·simp at hc
   ·simp at hc
  ·rename_i len e ht
   split at hc
   ·rename_i z l n hz hl hn
    simp only[Option.some.injEq]at hc
    subst hc
    simp only[eP,Option.map_eq_some_iff,Prod.mk.injEq]at hq
    obtain⟨cs,du,rfl,rfl⟩:=hq
    exact Kv E ho ht hz hl hn du
   ·simp at hc
  ·simp at hc
 ·rename_i ho
  split at hc
  ·rename_i e ht
   split at hc
   ·rename_i sz z l h1 h2 h3
    split at hc
    ·rename_i hh
     simp only[Option.some.injEq]at hc
     subst hc
     simp only[eP,Option.map_eq_some_iff,Prod.mk.injEq]at hq
     obtain⟨rs,yE,rfl,rfl⟩:=hq
     exact .inl (Jo E ho ht h1 h2 h3 hh.1 hh.2 (by rw[List.map_map]at yE;exact yE))
    ·simp at hc
   ·simp at hc
  ·simp at hc
 ·rename_i ho
  split at hc
  ·rename_i hh
   simp only[Option.map_eq_some_iff]at hc
   obtain⟨l,hl,rfl⟩:=hc
   simp[eP]at hq;obtain⟨rfl,rfl⟩:=hq
   exact Px E ho hh.1 hh.2 hl
  ·split at hc
   ·rename_i hh
    simp only[Option.map_eq_some_iff]at hc
    obtain⟨l,hl,rfl⟩:=hc
    simp[eP]at hq;obtain⟨rfl,rfl⟩:=hq
    exact Py E ho hh.1 hh.2 hl
   ·simp at hc
 ·rename_i ho
  split at hc
  ·rename_i e ht
   split at hc
   ·rename_i m z i h1 h2 h3
    split at hc
    ·rename_i hb
     simp only[Option.bind_eq_bind,Option.bind_eq_some_iff,Option.pure_def,Option.some.injEq]at hc
     obtain⟨l',h4,c',h5,rfl⟩:=hc
     simp only[eP,Option.map_eq_some_iff,Prod.mk.injEq]at hq
     obtain⟨⟨n,r⟩,hr,rfl,rfl⟩:=hq
     exact .inl (GL E ho ht h1 h2 h3 hb h4 h5 hr)
    ·simp at hc
   ·simp at hc
  ·simp at hc
 ·rename_i ho
  exact OX ho hc hq S E
 ·rename_i ho
  split at hc
  ·rename_i dir e ht
   split at hc
   ·rename_i i hi
    split at hc
    ·rename_i hb
     simp only[Option.map_eq_some_iff]at hc
     obtain⟨x',hx,rfl⟩:=hc
     simp only[eP,Option.map_eq_some_iff,Prod.mk.injEq]at hq
     obtain⟨n,hn,rfl,rfl⟩:=hq
     exact .inr (.inr (ON E ho ht hi hb hx hn))
    ·cases hc
   ·cases hc
  ·cases hc
 ·simp only[Option.bind_eq_bind,Option.bind_eq_some_iff,Option.pure_def,Option.some.injEq]at hc
  obtain⟨x',_,y',_,rfl⟩:=hc
  simp[eP]at hq
 ·split at hc
  ·split at hc
   ·simp only[Option.map_eq_some_iff]at hc
    obtain⟨x',_,rfl⟩:=hc
    simp[eP]at hq
   ·cases hc
  ·cases hc
 ·rename_i ho
  split at hc
  ·rename_i m z hm
   simp only[Option.some.injEq]at hc
   subst hc
   simp only[eP,List.map_nil,bD,Option.some.injEq,Prod.mk.injEq]at hq
   obtain⟨rfl,rfl⟩:=hq
   exact .inr (.inl (Ry ho))
  ·cases hc
 ·rename_i ho
  split at hc
  ·rename_i m z x' k' hm hx hk
   simp only[Option.some.injEq]at hc
   subst hc
   obtain⟨rfl,h⟩:=Pw (id:=id) S E ho hm hx hk hq
   exact h
  ·cases hc
 ·split at hc
  ·simp only[Option.some.injEq]at hc
   subst hc
   simp[eP]at hq
  ·cases hc
 ·split at hc
  ·simp only[Option.some.injEq]at hc
   subst hc
   simp[eP]at hq
  ·cases hc
 ·simp only[Option.some.injEq]at hc
  subst hc
  simp[eP]at hq
 ·simp only[Option.some.injEq]at hc
  subst hc
  simp[eP]at hq
 ·simp at hc
end
end Go.Proofs.YtgoelphibofcmaaGreat.V

namespace Go.Proofs.YtgoelphibofcmaaGreat.V
open Go.RowKit
variable {P:Program} {w w':World} {D D':Nat->Prop} {ι ι':Names}
def kE (ι:Names) (id:Id) (B:sC):Names:=fun i=>if i=id then some B else ι i
theorem dX (ι:Names) (id:Id) (B:sC):kE ι id B id=some B:=if_pos rfl
theorem e9 {ι:Names} {id:Id} {B:sC} (h:ι id=none):∀i B',ι i=some B'->kE ι id B i=some B':=fun i B' hi=>by
 have:i≠id:=by rintro rfl;rw[h]at hi;cases hi
 rw[kE,if_neg this];exact hi
theorem gn {ι:Names} {id i:Id} {B:sC} (h:i≠id):kE ι id B i=ι i:=if_neg h
section
variable {g:Rows} {hs:Nat} {env:Env} {a:Act} {o:Oper} {id:Id} {v:AV}
theorem lv.frame {B:sC} {r:Row} (h:lv P w D ι B r) (hb:w'.heap[B.b]? =w.heap[B.b]?) (hr:∀a v,cI P w D ι a v->cI P w' D' ι' a v):lv P w' D' ι' B r:=
 ⟨h.sz,by obtain⟨c,T,h1,h2⟩:=h.xH;exact⟨c,T,hb.trans h1,h2⟩,h.fits,h.len,h.flat,fun i j cs a hi hj=>by
  obtain⟨v,h1,h2⟩:=h.at_ i j cs a hi hj
  exact⟨v,(World.cell?_of_block (a:=⟨B.b,i*r.sz+j,none⟩) hb).trans h1,hr _ _ h2⟩⟩
theorem gM.frame {B:sC} {r:Row} (h:gM P w D ι B r) (hb:w'.heap[B.b]? =w.heap[B.b]?) (hr:∀a v,cI P w D ι a v->cI P w' D' ι' a v):gM P w' D' ι' B r:=
 ⟨h.sz,h.flat,fun hk=>(h.row hk).frame hb hr,fun m hm=>by
  obtain⟨h1,es,c,h2,h3,h5,h4⟩:=h.map m hm
  refine⟨h1,es,c,hb.trans h2,h3,h5,fun i cs hi=>?_⟩
  obtain⟨e,kv,vv,q1,q2,q3,q4,q5⟩:=h4 i cs hi
  exact⟨e,kv,vv,q1,q2,q3,hr _ _ q4,hr _ _ q5⟩,fun c hc=>by
  obtain⟨h1,buf,s,q,h2,h3,h4⟩:=h.chan c hc
  refine⟨h1,buf,s,q,hb.trans h2,h3,fun i cs hi=>?_⟩
  obtain⟨a,u,q1,q2,q3⟩:=h4 i cs hi
  exact⟨a,u,q1,q2,hr _ _ q3⟩⟩
theorem gw.kill (S:gw P hs D ι g w) (i:Id):gw P hs D ι (cu g i) w:=by
 refine⟨S.lo,S.dead,fun id r h=>?_,fun id jW r r' B B' h h' hw hB dz hb=>?_⟩
 ·unfold cu at h;split at h
  ·cases h
  ·exact S.row id r h
 ·unfold cu at h h'
  split at h
  ·cases h
  ·split at h'
   ·cases h'
   ·exact S.inj id jW r r' B B' h h' hw hB dz hb
theorem gw.sub {g':Rows} (S:gw P hs D ι g w) (h:∀id r,g' id=some r->g id=some r):gw P hs D ι g' w:=
 ⟨S.lo,S.dead,fun id r hr=>S.row id r (h id r hr),fun id jW r r' B B' h1 h2=>S.inj id jW r r' B B' (h _ _ h1) (h _ _ h2)⟩
theorem AB {hid:List Nat} {n:Nat} {g:Rows}:∀id r,fW hid n g id=some r->g id=some r:=fun id r h=>by
 cases hid with
 |nil=>exact h
 |cons a l=>
  have e:fW (a::l) n g id=if (a::l).contains id.site=true/\id.ck=n then none else g id:=rfl
  rw[e]at h
  by_cases hc:(a::l).contains id.site=true/\id.ck=n
  ·rw[if_pos hc]at h;cases h
  ·rw[if_neg hc]at h;exact h
theorem gw.stay (S:gw P hs D ι g w) (hb:∀b,b<w.heap.size->w'.heap[b]? =w.heap[b]?) (hz:w.heap.size<=w'.heap.size) (hD:∀b,D b->D' b) (hD':∀b,D' b->b<w'.heap.size) (kj:∀b,D' b->D b∨w.heap.size<=b) (hι:∀id B,ι id=some B->ι' id=some B):gw P hs D' ι' g w':=by
 have hr:∀a v,cI P w D ι a v->cI P w' D' ι' a v:=fun a v h=>h.frame (fun b hd=>hb b (S.dead b hd)) hD hι
 have lt:∀{id r B},g id=some r->ι id=some B->B.b<w.heap.size:=fun {id r B} h hB=>by
  obtain⟨B',dz,R,_⟩:=S.row id r h
  rw[hB]at dz;injection dz with dz;subst dz
  exact R.lt
 refine⟨Nat.le_trans S.lo hz,hD',fun id r h=>?_,fun id jW r r' B B' h h' hw hB dz he=>?_⟩
 ·obtain⟨B,hB,R,h1,h2⟩:=S.row id r h
  exact⟨B,hι _ _ hB,R.frame (hb _ (lt h hB)) hr,h1,fun hw hd=>by
   rcases kj _ hd with hd|hd
   ·exact h2 hw hd
   ·have:=lt h hB;omega⟩
 ·obtain⟨C,hC,_⟩:=S.row id r h
  obtain⟨C',uv,_⟩:=S.row jW r' h'
  have e1:=hι _ _ hC
  have e2:=hι _ _ uv
  rw[hB]at e1;injection e1 with e1;subst e1
  rw[dz]at e2;injection e2 with e2;subst e2
  exact S.inj id jW r r' _ _ h h' hw hC uv he
theorem Step.stay (S:gw P hs D ι g w) (hb:∀b,b<w.heap.size->w'.heap[b]? =w.heap[b]?) (hz:w.heap.size<=w'.heap.size) (e1:w'.os=w.os) (e2:w'.tape=w.tape) (e3:w'.output=w.output) (hD:∀b,D b->D' b) (kj:∀b,D' b->D b∨w.heap.size<=b) (hι:∀id B,ι id=some B->ι' id=some B):Step hs D ι w D' ι' w':=
 ⟨⟨e1,e2,e3,hz,fun k hk=>hb k (Nat.lt_of_lt_of_le hk S.lo)⟩,fun b hd=>hb b (S.dead b hd),hD,hι,fun b h=>(kj b h).imp_right (Nat.le_trans S.lo)⟩
theorem gw.alloc (S:gw P hs D ι g w) {cells:Array Value} {T:TypeId} {r:Row} (hh:w'.heap=w.heap.push (.cells cells T (0,0))) (hn:ι id=none) (hw:r.w=true) (h1:r.rows.length*r.sz<=cells.size) (h2:∀cs∈r.rows,cs.length=r.sz) (h3:∀cs∈r.rows,∀a∈cs,a.cell=true)
  (h4:∀i j cs a,r.rows[i]? =some cs->cs[j]? =some a->∃x,cells[i*r.sz+j]? =some x/\cI P w D ι a x):gw P hs D (kE ι id ⟨w.heap.size,r.sz,cells.size,none⟩) (bq g id r) w':=by
 have hb:∀b,b<w.heap.size->w'.heap[b]? =w.heap[b]? :=fun b dS=>by rw[hh,Array.getElem?_push,if_neg (by omega)]
 have hz:w.heap.size<=w'.heap.size:=by rw[hh];simp
 have S':=S.stay (D':=D) (ι':=kE ι id ⟨w.heap.size,r.sz,cells.size,none⟩) hb hz (fun _ h=>h) (fun b hd=>Nat.lt_of_lt_of_le (S.dead b hd) hz) (fun _ h=>.inl h) (e9 hn)
 have hr:∀a v,cI P w D ι a v->cI P w' D (kE ι id ⟨w.heap.size,r.sz,cells.size,none⟩) a v:=fun a v h=>h.frame (fun b hd=>hb b (S.dead b hd)) (fun _ h=>h) (e9 hn)
 have kj:w'.heap[w.heap.size]? =some (.cells cells T (0,0)):=by rw[hh];simp
 have gone:g id=none:=by
  cases hg:g id with
  |none=>rfl
  |some q=>
   obtain⟨B,hB,_⟩:=S.row id q hg
   rw[hn]at hB;cases hB
 have lt:∀{i q B},g i=some q->ι i=some B->B.b<w.heap.size:=fun {i q B} h hB=>by
  obtain⟨B',dz,R,_⟩:=S.row i q h
  rw[hB]at dz;injection dz with dz;subst dz
  exact R.lt
 refine⟨S'.lo,S'.dead,fun i q h=>?_,fun i i' q q' B B' h h' IX hB dz he=>?_⟩
 ·unfold bq at h
  split at h
  ·rename_i e
   subst e
   injection h with h;subst h
   refine⟨_,dX _ _ _,lv.obj ⟨rfl,⟨cells,T,kj,rfl⟩,h1,h2,h3,fun k j cs a hk hj=>?_⟩ rfl,fun _=>S.lo,fun _ hd=>?_⟩
   ·obtain⟨x,hx,hrx⟩:=h4 k j cs a hk hj
    exact⟨x,by simp[World.cell?,kj,hx],hr _ _ hrx⟩
   ·have:=S.dead _ hd;simp at this
  ·exact S'.row i q h
 ·unfold bq at h h'
  split at h
  ·rename_i e
   split at h'
   ·rename_i e';exact e.trans e'.symm
   ·exfalso
    rename_i e'
    subst e
    rw[dX]at hB;injection hB with hB;subst hB
    rw[gn e']at dz
    have:=lt h' dz
    simp at he;omega
  ·rename_i e
   split at h'
   ·exfalso
    rename_i e'
    subst e'
    rw[dX]at dz;injection dz with dz;subst dz
    rw[gn e]at hB
    have:=lt h hB
    simp at he;omega
   ·exact S'.inj i i' q q' B B' h h' IX hB dz he
theorem gw.put (S:gw P hs D ι g w) {r r':Row} {B:sC} {cur cur':Array Value} {T:TypeId} (hid:g id=some r) (hw:r.w=true) (hB:ι id=some B) (hblk:w.heap[B.b]? =some (.cells cur T (0,0))) (fj:cur'.size=cur.size)
  (h0:r'.w=true) (h1:r'.sz=r.sz) (h2:r'.rows.length*r'.sz<=B.C) (h3:∀cs∈r'.rows,cs.length=r'.sz) (h4:∀cs∈r'.rows,∀a∈cs,a.cell=true)
  (h5:∀i j cs a,r'.rows[i]? =some cs->cs[j]? =some a->∃v,cur'[i*r.sz+j]? =some v/\cI P w D ι a v):gw P hs D ι (bq g id r') (w.setRow B.b cur')/\Step hs D ι w D ι (w.setRow B.b cur'):=by
 obtain⟨B0,Bz,RO,ki,mm⟩:=S.row id r hid
 rw[hB]at Bz;injection Bz with Bz;subst Bz
 have xz:=RO.L1 hblk
 have R:=RO.row xz
 have hd:∀b,D b->(w.setRow B.b cur').heap[b]? =w.heap[b]? :=fun b hb=>setRow_other w B.b b cur' (by rintro rfl;exact mm hw hb)
 have hr:∀a v,cI P w D ι a v->cI P (w.setRow B.b cur') D ι a v:=fun a v h=>h.frame hd (fun _ h=>h) (fun _ _ h=>h)
 have hC:cur.size=B.C:=by
  obtain⟨c,T',h1,h2⟩:=R.xH
  rw[hblk]at h1;injection h1 with h1;injection h1 with h1 NT;subst h1;exact h2
 refine⟨⟨by simpa using S.lo,fun b hb=>by simpa using S.dead b hb,fun i q h=>?_,fun i i' q q' C C' h h' IX hC uv he=>?_⟩,⟨⟨by simp,by simp,by simp,by simp,fun k hk=>setRow_other w B.b k cur' (by have:=ki hw;omega)⟩,hd,fun _ h=>h,fun _ _ h=>h,fun _ h=>.inl h⟩⟩
 ·unfold bq at h
  split at h
  ·rename_i e
   subst e
   injection h with h;subst h
   refine⟨B,hB,lv.obj ⟨by rw[h1];exact R.sz,⟨cur',T,setRow_heap w B.b cur cur' T _ hblk,by rw[fj];exact hC⟩,h2,h3,h4,fun k j cs a hk hj=>?_⟩ xz,fun _=>ki hw,fun _=>mm hw⟩
   obtain⟨v,hv,lG⟩:=h5 k j cs a hk hj
   exact⟨v,by rw[cell_setRow_same w B.b _ cur cur' T _ hblk,h1];exact hv,hr _ _ lG⟩
  ·rename_i e
   obtain⟨C,hC,RC,k1,k2⟩:=S.row i q h
   refine⟨C,hC,RC.frame (setRow_other w B.b C.b cur' (fun MN=>e ?_)) hr,k1,k2⟩
   exact(S.inj id i r q B C hid h hw hB hC MN.symm).symm
 ·unfold bq at h h'
  have get:∀j p,(if j=id then some r' else g j)=some p->∃p0,g j=some p0/\(p.w=true->p0.w=true):=fun j p hp=>by
   split at hp
   ·rename_i e;subst e;injection hp with hp;subst hp;exact⟨r,hid,fun _=>hw⟩
   ·exact⟨p,hp,fun h=>h⟩
  obtain⟨p,hp,PY⟩:=get _ _ h
  obtain⟨p',Oo,_⟩:=get _ _ h'
  exact S.inj i i' p p' C C' hp Oo (PY IX) hC uv he
theorem gw.rename (S:gw P hs D ι g w) {i:Id} {r:Row} {B:sC} (hi:g i=some r) (hw:r.w=true) (hB:ι i=some B) (hn:ι id=none):gw P hs D (kE ι id B) (bq (cu g i) id r) w:=by
 have S':=S.stay (w':=w) (D':=D) (ι':=kE ι id B) (fun _ _=>rfl) (Nat.le_refl _) (fun _ h=>h) S.dead (fun _ h=>.inl h) (e9 hn)
 have gW:i≠id:=by rintro rfl;rw[hn]at hB;cases hB
 obtain⟨B1,AN,R,k1,k2⟩:=S'.row i r hi
 rw[gn gW,hB]at AN;injection AN with AN;subst AN
 have get:∀j p,bq (cu g i) id r j=some p->(j=id/\p=r)∨(j≠id/\j≠i/\g j=some p):=fun j p hp=>by
  unfold bq cu at hp
  split at hp
  ·rename_i e;injection hp with hp;exact .inl ⟨e,hp.symm⟩
  ·rename_i e
   split at hp
   ·cases hp
   ·rename_i e';exact .inr ⟨e,e',hp⟩
 refine⟨S.lo,S.dead,fun j p h=>?_,fun j j' p p' C C' h h' PY hC uv he=>?_⟩
 ·rcases get j p h with⟨rfl,rfl⟩|⟨_,_,hp⟩
  ·exact⟨B,dX _ _ _,R,k1,k2⟩
  ·exact S'.row j p hp
 ·rcases get j p h with⟨rfl,rfl⟩|⟨q1,q2,hp⟩
  ·rcases get j' p' h' with⟨rfl,rfl⟩|⟨q1',q2',Oo⟩
   ·rfl
   ·exfalso
    rw[dX]at hC;injection hC with hC;subst hC
    rw[gn q1']at uv
    exact q2' (S.inj i j' p p' B C' hi Oo hw hB uv he).symm
  ·rcases get j' p' h' with⟨rfl,rfl⟩|⟨q1',q2',Oo⟩
   ·exfalso
    rw[dX]at uv;injection uv with uv;subst uv
    rw[gn q1]at hC
    exact q2 (S.inj j i p p' C B hp hi PY hC hB he)
   ·rw[gn q1]at hC
    rw[gn q1']at uv
    exact S.inj j j' p p' C C' hp Oo PY hC uv he
def CT (P:Program) (hs:Nat) (a:Act) (o:Oper) (w:World) (D:Nat->Prop) (ι:Names) (id:Id) (v:AV) (g':Rows):Prop:=
 ∃u w' ι',((execOp a.eval o).run P w=.ok (.value u) w'∨(execOp a.eval o).run P w=.ok .skip w'/\u=undef)/\Step hs D ι w D ι' w'/\gw P hs D ι' g' w'/\cI P w' D ι' v u/\∀i,i≠id->ι' i=ι i
theorem Cl {xs:List AV} {vs:Array Value} (h:fe P w D ι xs vs) (hf:∀a∈xs,a.cell=true):∀v∈vs.toList,v.oneCell'=true:=by
 intro v hv
 obtain⟨j,hj,rfl⟩:=List.getElem_of_mem hv
 have KI:j<xs.length:=by rw[<-h.1];simpa using hj
 obtain⟨u,hu,hr⟩:=h.2 j _ (List.getElem?_eq_getElem KI)
 have hc:=hr.Bg (hf _ (List.getElem_mem KI))
 have:vs.toList[j]=u:=by
  have:vs.toList[j]? =some u:=by simpa using hu
  rw[List.getElem?_eq_getElem hj]at this;injection this
 rw[this]
 cases u<;>simp_all [Value.oneCell']
theorem jR {i j n m:Nat} (h:i<n) (hj:j<m):i*m+j<n*m:=by
 have:(i+1)*m<=n*m:=Nat.mul_le_mul_right _ h
 rw[Nat.add_mul,Nat.one_mul]at this;omega
theorem lv.cur {B:sC} {r:Row} (R:lv P w D ι B r):∃cur T,w.heap[B.b]? =some (.cells cur T (0,0))/\cur.size=B.C/\∀i j cs a,r.rows[i]? =some cs->cs[j]? =some a->∃v,cur[i*r.sz+j]? =some v/\cI P w D ι a v:=by
 obtain⟨cur,T,h1,h2⟩:=R.xH
 refine⟨cur,T,h1,h2,fun i j cs a hi hj=>?_⟩
 obtain⟨v,hv,hr⟩:=R.at_ i j cs a hi hj
 exact⟨v,by simpa[World.cell?,h1]using hv,hr⟩
theorem K8 {t:TypeId} {n:Nat} {x y:Operand} {x' y':O} {g':Rows} (S:gw P hs D ι g w) (E:cq P w D ι env a) (ho:o.op=.store t x y) (hn:dY P t=some n) (hx:cO P x=some x') (hy:cO P y=some y')
  (hv:bU g n (cQ env y') (cQ env x')=some g'):CT P hs a o w D ι id .undef g':=by
 have rx:=dj E hx
 have ry:=dj E hy
 unfold bU at hv
 split at hv
 ·rename_i i k off hp
  rw[hp]at rx
  simp only[Option.bind_eq_some_iff]at hv
  obtain⟨r,hg,cs,du,hv⟩:=hv
  split at hv
  ·rename_i hc
   obtain⟨c1,c2,c3,c4⟩:=hc
   simp at hv;subst hv
   obtain⟨B,he,hB,hk⟩:=iA rx
   obtain⟨B',dz,R,ki,mm⟩:=S.row i r hg
   rw[hB]at dz;injection dz with dz;subst dz
   replace R:=R.row hk
   obtain⟨cur,T,hblk,hC,we⟩:=R.cur
   have hL:=qR ry c3
   have h1:=Cl hL (List.all_eq_true.1 c3)
   have Rl:(a.eval y).cells.size=n:=by rw[hL.1,c2]
   have l7:=(List.getElem?_eq_some_iff.1 du).1
   have hlen:=R.len cs (List.mem_of_getElem? du)
   have hbound:k*r.sz+r.sz<=r.rows.length*r.sz:=by
    have:(k+1)*r.sz<=r.rows.length*r.sz:=Nat.mul_le_mul_right _ l7
    rwa [Nat.add_mul,Nat.one_mul]at this
   have hf:=R.fits
   have dF:=run_storeCells_at P B.b (k*B.sz+off) T (a.eval y).cells.toList 0 cur w hblk (by rw[R.sz];simp only[Array.length_toList];omega) h1
   simp only[Nat.add_zero,Array.length_toList]at dF
   have wo:=S.put (r':={r with rows:=r.rows.set k (cK cs off (cQ env y').cells)}) hg c1 hB hblk (cur':=(cur.toList.take (k*B.sz+off)++(a.eval y).cells.toList++cur.toList.drop (k*B.sz+off+(a.eval y).cells.size)).toArray)
    (by rw[R.sz];simp;omega) c1 rfl (by simpa using R.fits) (fun c Ub=>by
     rcases List.mem_or_eq_of_mem_set Ub with h|rfl
     ·exact R.len c h
     ·simp[cK];omega) (fun c Ub b hb=>by
     rcases List.mem_or_eq_of_mem_set Ub with h|rfl
     ·exact R.flat c h b hb
     ·unfold cK at hb
      rcases List.mem_append.1 hb with hb|hb
      ·rcases List.mem_append.1 hb with hb|hb
       ·exact R.flat cs (List.mem_of_getElem? du) b (List.mem_of_mem_take hb)
       ·exact List.all_eq_true.1 c3 b hb
      ·exact R.flat cs (List.mem_of_getElem? du) b (List.mem_of_mem_drop hb)) (fun i2 j c b yy hj=>by
     rw[R.sz]
     simp only[List.getElem?_toArray]
     by_cases yz:i2=k
     ·subst yz
      rw[List.getElem?_set_self l7]at yy
      injection yy with yy;subst yy
      unfold cK at hj
      by_cases hjo:j<off
      ·rw[List.append_assoc,List.getElem?_append_left (by simp;omega),List.getElem?_take,if_pos hjo]at hj
       rw[List.append_assoc,List.getElem?_append_left (by simp;omega),List.getElem?_take,if_pos (by omega)]
       simpa using we _ _ _ _ du hj
      ·by_cases jB:j<off+n
       ·rw[List.append_assoc,List.getElem?_append_right (by simp;omega),List.getElem?_append_left (by simp;omega)]at hj
        rw[List.append_assoc,List.getElem?_append_right (by simp;omega),List.getElem?_append_left (by simp;omega)]
        simp only[List.length_take]at hj ⊢
        rw[show j-min off cs.length=j-off by omega]at hj
        rw[show i2*r.sz+j-min (i2*r.sz+off) cur.toList.length=j-off by simp;omega]
        simpa using hL.2 _ _ hj
       ·rw[List.getElem?_append_right (by simp;omega)]at hj
        rw[List.getElem?_append_right (by simp;omega)]
        simp only[List.length_append,List.length_take,List.getElem?_drop,Array.length_toList]at hj ⊢
        rw[show off+(cQ env y').cells.length+(j-(min off cs.length+(cQ env y').cells.length))=j by omega]at hj
        rw[show i2*r.sz+off+(a.eval y).cells.size+(i2*r.sz+j-(min (i2*r.sz+off) cur.size+(a.eval y).cells.size))=i2*r.sz+j by omega]
        simpa using we _ _ _ _ du hj
     ·rw[List.getElem?_set_ne (fun e=>yz e.symm)]at yy
      have hi2l:=(List.getElem?_eq_some_iff.1 yy).1
      have gZ:j<r.sz:=by rw[<-R.len c (List.mem_of_getElem? yy)];exact(List.getElem?_eq_some_iff.1 hj).1
      have:=we _ _ _ _ yy hj
      rcases Nat.lt_or_gt_of_ne yz with dS|Lp
      ·have h2:i2*r.sz+j<k*r.sz:=jR dS gZ
       rw[List.append_assoc,List.getElem?_append_left (by simp;omega),List.getElem?_take,if_pos (by omega)]
       simpa using this
      ·have h2:k*r.sz+r.sz<=i2*r.sz:=by
        have:(k+1)*r.sz<=i2*r.sz:=Nat.mul_le_mul_right _ Lp
        rwa [Nat.add_mul,Nat.one_mul]at this
       rw[List.getElem?_append_right (by simp;omega)]
       simp only[List.length_append,List.length_take,List.getElem?_drop,Array.length_toList]
       rw[show k*r.sz+off+(a.eval y).cells.size+(i2*r.sz+j-(min (k*r.sz+off) cur.size+(a.eval y).cells.size))=i2*r.sz+j by omega]
       simpa using this)
   refine⟨undef,_,ι,.inr ⟨?_,rfl⟩,wo.2,wo.1,cI.undef,fun _ _=>rfl⟩
   simp only[execOp,ho,he,Instr.storeAt,Instr.sureAddr,storeVar,Sem.run_bind,Sem.run_pure,Result.andThen_ok,run_sizeOf hn,Rl,ne_eq,not_true_eq_false,if_false,dF]
  ·simp at hv
 ·simp at hv
end
end Go.Proofs.YtgoelphibofcmaaGreat.V

namespace Go.Proofs.YtgoelphibofcmaaGreat.V
open Go.RowKit
variable {P:Program} {w w':World} {D D':Nat->Prop} {ι ι':Names}
section
variable {g:Rows} {hs:Nat} {env:Env} {a:Act} {o:Oper} {id:Id} {v:AV}
theorem r7 (S:gw P hs D ι g w) {y:AV} {u:Value} {ys:List (List AV)} {sz:Nat} (hr:cI P w D ι y u) (hy:bw g y=some ys) (hl:∀c∈ys,c.length=sz) (hf:∀c∈ys,∀b∈c,b.cell=true):
  ∃A c,u=.slice A ys.length c/\(ys=[]∨∃b o,∃news:List Value,A=some ⟨b,o,none⟩/\news.length=ys.length*sz/\(∀j v,news[j]? =some v->w.cell? ⟨b,o+j,none⟩=some v)/\fe P w D ι ys.flatten news.toArray/\∀v∈news,v.oneCell'=true):=by
 have fin:∀b o,ys≠[]->(∀i j cs x,ys[i]? =some cs->cs[j]? =some x->∃v,w.cell? ⟨b,o+(i*sz+j),none⟩=some v/\cI P w D ι x v)->
   ∃news:List Value,news.length=ys.length*sz/\(∀j v,news[j]? =some v->w.cell? ⟨b,o+j,none⟩=some v)/\fe P w D ι ys.flatten news.toArray/\∀v∈news,v.oneCell'=true:=by
  intro b o _ h
  have hlen:=Ir hl
  have at_:∀k,k<ys.length*sz->∃x,ys.flatten[k]? =some x/\∃v,w.cell? ⟨b,o+k,none⟩=some v/\cI P w D ι x v:=by
   intro k hk
   have jN:0<sz:=by
    rcases Nat.eq_zero_or_pos sz with h0|h0
    ·subst h0;simp at hk
    ·exact h0
   have hi:k / sz<ys.length:=Nat.div_lt_of_lt_mul (by rw[Nat.mul_comm];exact hk)
   have hj:k % sz<sz:=Nat.mod_lt _ jN
   have du:=List.getElem?_eq_getElem hi
   have gZ:k % sz<ys[k / sz].length:=by rw[hl _ (List.getElem_mem hi)];exact hj
   have hx:=List.getElem?_eq_getElem gZ
   have e:k / sz*sz+k % sz=k:=by rw[Nat.mul_comm];exact Nat.div_add_mod _ _
   refine⟨_,by rw[<-flat_get hl du hx,e],?_⟩
   obtain⟨v,hv,lG⟩:=h _ _ _ _ du hx
   rw[e]at hv
   exact⟨v,hv,lG⟩
  let news:=(List.range (ys.length*sz)).map fun k=>(w.cell? ⟨b,o+k,none⟩).getD undef
  have hn:∀k,k<ys.length*sz->∀v,w.cell? ⟨b,o+k,none⟩=some v->news[k]? =some v:=fun k hk v hv=>by
   simp only[news,List.getElem?_map,List.getElem?_range hk,Option.map_some,hv,Option.getD_some]
  have hR:fe P w D ι ys.flatten news.toArray:=⟨by simp[news,hlen],fun j x hx=>by
   have gZ:=(List.getElem?_eq_some_iff.1 hx).1
   rw[hlen]at gZ
   obtain⟨x',uS,v,hv,lG⟩:=at_ j gZ
   rw[hx]at uS;injection uS with uS;subst uS
   exact⟨v,by simpa using hn j gZ v hv,lG⟩⟩
  refine⟨news,by simp[news],fun j v hj=>?_,hR,?_⟩
  ·have gZ:j<ys.length*sz:=by have:=(List.getElem?_eq_some_iff.1 hj).1;simpa[news]using this
   obtain⟨x,_,v',nW,_⟩:=at_ j gZ
   rw[hn j gZ v' nW]at hj
   injection hj with hj
   rw[<-hj];exact nW
  ·have:=Cl hR (fun x hx=>by
    obtain⟨c,hc,U3⟩:=List.mem_flatten.1 hx
    exact hf c hc x U3)
   simpa using this
 unfold bw at hy
 split at hy
 ·simp at hy;subst hy
  exact⟨none,0,kd hr,.inl rfl⟩
 ·rename_i rows
  simp at hy;subst hy
  obtain⟨A,c,he,_,_,h3⟩:=w6 hr
  refine⟨A,c,he,?_⟩
  rcases h3 with h3|⟨b,oo,sz',vs,rfl,hD,KK,_,hc,hi⟩
  ·exact .inl h3
  ·by_cases h0:rows=[]
   ·exact .inl h0
   ·have BH:sz'=sz:=by
     cases rows with
     |nil=>exact(h0 rfl).elim
     |cons c r=>rw[<-KK c (by simp),hl c (by simp)]
    subst BH
    obtain⟨news,q1,q2,q3,q4⟩:=fin b oo h0 (fun i j cs x du hx=>⟨_,hc i j (List.getElem?_eq_some_iff.1 du).1 (by rw[<-KK cs (List.mem_of_getElem? du)];exact(List.getElem?_eq_some_iff.1 hx).1),.eM _ _ (hi i j cs x du hx)⟩)
    exact .inr ⟨b,oo,news,rfl,q1,q2,q3,q4⟩
 ·rename_i i off len
  simp only[Option.bind_eq_some_iff]at hy
  obtain⟨r,hg,hy⟩:=hy
  split at hy
  ·rename_i hle
   simp at hy;subst hy
   obtain⟨oo,cap,B,he,hB,h1,h2,h3,h4,hk⟩:=iQ hr
   obtain⟨B',dz,R,_,_⟩:=S.row i r hg
   rw[hB]at dz;injection dz with dz;subst dz
   replace R:=R.row hk
   have hlen:((r.rows.drop off).take len).length=len:=by simp;omega
   refine⟨some ⟨B.b,oo,none⟩,cap,by rw[hlen];exact he,?_⟩
   by_cases h0:(r.rows.drop off).take len=[]
   ·exact .inl h0
   ·have BH:r.sz=sz:=by
     cases hq:(r.rows.drop off).take len with
     |nil=>exact(h0 hq).elim
     |cons c q=>
      have hm:c∈(r.rows.drop off).take len:=by rw[hq];simp
      rw[<-hl c hm,R.len c (List.mem_of_mem_drop (List.mem_of_mem_take hm))]
    have hlp:0<len:=by rw[<-hlen];exact List.length_pos_iff.2 h0
    have CH:oo=off*B.sz:=by rcases h2 with h2|h2<;>omega
    obtain⟨news,q1,q2,q3,q4⟩:=fin B.b oo h0 (fun i2 j cs x du hx=>by
     rw[List.getElem?_take]at du
     split at du
     ·rw[List.getElem?_drop]at du
      obtain⟨v,hv,lG⟩:=R.at_ _ _ _ _ du hx
      refine⟨v,?_,lG⟩
      rw[CH,R.sz,<-BH]
      rw[Nat.add_mul]at hv
      rw[<-Nat.add_assoc]
      exact hv
     ·simp at du)
    exact .inr ⟨B.b,oo,news,rfl,q1,q2,q3,q4⟩
  ·simp at hy
 ·simp at hy
theorem pb {t ty e:TypeId} {i:TypeInfo} (ht:P.underlying t=some (.slice e)) (hi:P.info? e=some i) (A:Option Addr) (n c:Nat) (hn:n<=c) (B:Option Addr) (d:Nat):
  (Builtin.append_ #[t,t] ty #[.slice A n c,.slice B 0 d]).run P w=.ok (.slice A n c) w:=by
 have hf:(Builtin.firstCells i.size 0 (.slice B 0 d)).run P w=.ok #[] w:=by
  cases B<;>simp[Builtin.firstCells,loadCells,loadCellsFrom]
 cases A with
 |none=>simp[Builtin.append_,run_underlying ht,sizeOf,typeInfo,hi,Builtin.lenOf,hn,hf]
 |some A=>simp[Builtin.append_,run_underlying ht,sizeOf,typeInfo,hi,Builtin.lenOf,hn,hf,storeCells]
theorem xX {t ty e T:TypeId} {i:TypeInfo} (ht:P.underlying t=some (.slice e)) (hi:P.info? e=some i) (b sa Ef:Nat) (cur:Array Value) (hg:w.heap[b]? =some (.cells cur T (0,0)))
  (x:Addr) (m c:Nat) (news:List Value) (hl:news.length=m*i.size) (Q5:∀j u,news[j]? =some u->w.cell? (x.add j)=some u) (h1:∀u∈news,u.oneCell'=true)
  (fS:sa+m<=Ef) (sZ:sa*i.size+news.length<=cur.size):
  (Builtin.append_ #[t,t] ty #[.slice (some ⟨b,0,none⟩) sa Ef,.slice (some x) m c]).run P w=
   .ok (.slice (some ⟨b,0,none⟩) (sa+m) Ef) (w.setRow b (cur.toList.take (sa*i.size)++news++cur.toList.drop (sa*i.size+news.length)).toArray):=by
 have hf:=run_firstCells_some (P:=P) w i.size m x m c news hl Q5
 have dF:=run_storeCells_at P b (sa*i.size) T news 0 cur w hg (by simpa using sZ) h1
 simp only[Nat.add_zero]at dF
 simp[Builtin.append_,run_underlying ht,sizeOf,typeInfo,hi,Builtin.lenOf,fS,hf,kf,dF]
theorem By (w:World) (GQ yY:Nat) (e:TypeId) (h:GQ<=dE):GQ<=grownCap w GQ yY e/\grownCap w GQ yY e<=maxLen:=by
 unfold dE at h
 simp only[grownCap,Question.cut,maxLen]
 have:=Nat.mod_lt (w.tape w.drawn (.appendCap GQ yY e)) (show 0<2 ^ 63-GQ by omega)
 omega
theorem fV {x y:Operand} {t:TypeId} {u:Value} (ho:o.op=.call {callee:=.builtin .append,args:= #[x,y],argTypes:= #[t,t]}) (h:(Builtin.append_ #[t,t] o.type #[a.eval x,a.eval y]).run P w=.ok u w'):(execOp a.eval o).run P w=.ok (.value u) w':=by
 simp only[execOp,ho,resolve,Sem.run_bind,Sem.run_pure,Result.andThen_ok,invoke,builtin]
 simp only[List.map_toArray,List.map_cons,List.map_nil]
 rw[h];rfl
theorem Cs {T:TypeId} (S:gw P hs D ι g w) (cells:Array Value) (hn:ι id=none) (B:sC):Step hs D ι w D (kE ι id B) (w.drew.alloc (.cells cells T)):=
 Step.stay S (fun k hk=>by show(w.heap.push _)[k]? = _;rw[Array.getElem?_push,if_neg (by omega)]) (by show _<=(w.heap.push _).size;simp) rfl rfl rfl (fun _ h=>h) (fun _ h=>.inl h) (e9 hn)
theorem Ic {x y:Operand} {x' y':O} {t e:TypeId} {m:Nat} {z:List K} {i:TypeInfo} {ys:List (List AV)} {g':Rows} (S:gw P hs D ι g w) (E:cq P w D ι env a) (hn:ι id=none) (ho:o.op=.call {callee:=.builtin .append,args:= #[x,y],argTypes:= #[t,t]})
  (ht:P.underlying t=some (.slice e)) (fj:dY P e=some (m+1)) (hz:jH P e=some z) (hi:P.info? e=some i) (hby:i.bytes<=32768) (hx:cO P x=some x') (hy:cO P y=some y') (Fm:bw g (cQ env y')=some ys)
  (hv:aY g id (m+1) (cQ env x') ys=some (v,g')):CT P hs a o w D ι id v g':=by
 have rx:=dj E hx
 have ry:=dj E hy
 obtain⟨it,zv,qW,qJ,P9,hm,Fo⟩:=jV hz
 rw[hi]at qW;injection qW with qW;subst qW
 have jD:i.size=m+1:=by simpa[dY,hi]using fj
 have fits:∀n,n<=dE->n*i.bytes<=140737488355328:=fun n h=>by
  unfold dE at h
  have:=Nat.mul_le_mul h hby
  omega
 have e63:∀n,n<=dE->(n:Int)<=9223372036854775807:=fun n h=>by unfold dE at h;omega
 have same:∀(w1:World) (cells:Array Value),w1=w.drew.alloc (.cells cells e)->w1.heap=w.heap.push (.cells cells e (0,0)):=fun w1 cells h=>by subst h;rfl
 have Ql:∀l:List (List AV),(l.all fun c=>c.length==m+1&&c.all AV.cell)=true->(∀c∈l,c.length=m+1)/\∀c∈l,∀b∈c,b.cell=true:=fun l h=>by
  rw[List.all_eq_true]at h
  refine⟨fun c hc=>?_,fun c hc b hb=>?_⟩
  ·have:=h c hc;simp at this;exact this.1
  ·have:=h c hc;simp at this;exact this.2 b hb
 unfold aY at hv
 split at hv
 ·rename_i hb
  rw[hb]at rx
  have ex:=kd rx
  split at hv
  ·simp at hv
   obtain⟨rfl,rfl⟩:=hv
   obtain⟨A,c,ey,_⟩:=r7 (sz:=m+1) S ry Fm (fun c h=>by cases h) (fun c h=>by cases h)
   refine⟨_,w,ι,.inl (fV ho (by rw[ex,ey];exact pb ht hi none 0 0 (Nat.le_refl _) A c)),Step.refl _ _ _ _,S,.eM _ _ .cm,fun _ _=>rfl⟩
  ·rename_i y0 yr
   split at hv
   ·rename_i hc
    simp only[Option.some.injEq,Prod.mk.injEq]at hv
    obtain⟨rfl,rfl⟩:=hv
    obtain⟨hl,hf⟩:=Ql _ hc.2
    obtain⟨A,c,ey,h2⟩:=r7 (sz:=m+1) S ry Fm hl hf
    rcases h2 with h2|⟨b,oo,news,rfl,q1,q2,q3,q4⟩
    ·cases h2
    have gh:=run_append_nil (P:=P) w t o.type e i zv ht hi qJ ⟨b,oo,none⟩ (y0::yr).length c news (by rw[jD];exact q1) (fun j v hj=>by rw[kf];exact q2 j v hj) (by simp) (e63 _ hc.1) (by have:=fits _ hc.1;omega)
    obtain⟨g1,g2⟩:=By w (y0::yr).length 0 e hc.1
    have du:(news.toArray++Builtin.zeroCells zv.cells (grownCap w (y0::yr).length 0 e-(y0::yr).length)).size=grownCap w (y0::yr).length 0 e*(m+1):=by
     rw[Array.size_append,size_zeroCells,P9,jD]
     simp only[List.size_toArray,q1]
     rw[<-Nat.add_mul];congr 1;omega
    have S1:=S.alloc (w':=w.drew.alloc (.cells (news.toArray++Builtin.zeroCells zv.cells (grownCap w (y0::yr).length 0 e-(y0::yr).length)) e)) (r:=⟨true,m+1,y0::yr⟩) rfl hn rfl (by rw[du];exact Nat.mul_le_mul_right _ g1) hl hf
     (fun k j cs b2 hk hj=>by
      obtain⟨u,hu,xR⟩:=q3.2 _ _ (flat_get hl hk hj)
      refine⟨u,?_,xR⟩
      have dS:=(Array.getElem?_eq_some_iff.1 hu).1
      dsimp only
      rw[Array.getElem?_append_left dS];exact hu)
    have dF:=Cs (T:=e) S (news.toArray++Builtin.zeroCells zv.cells (grownCap w (y0::yr).length 0 e-(y0::yr).length)) hn ⟨w.heap.size,m+1,(news.toArray++Builtin.zeroCells zv.cells (grownCap w (y0::yr).length 0 e-(y0::yr).length)).size,none⟩
    refine⟨_,_,_,.inl (fV ho (by rw[ex,ey];exact gh)),dF,S1,?_,fun _ h=>gn h⟩
    refine .own _ _ _ _ _ _ (dX _ _ _) rfl g1 (.inr (by simp)) ?_ g2
    dsimp only;rw[du];simp
   ·simp at hv
 ·rename_i i0 len hb
  rw[hb]at rx
  simp only[Option.bind_eq_some_iff]at hv
  obtain⟨r,hg,hv⟩:=hv
  split at hv
  ·rename_i hc
   obtain⟨c1,c2,c3,c4,c5⟩:=hc
   simp only[Option.some.injEq,Prod.mk.injEq]at hv
   obtain⟨rfl,rfl⟩:=hv
   obtain⟨hl,hf⟩:=Ql _ c5
   obtain⟨A,c,ey,h2⟩:=r7 (sz:=m+1) S ry Fm hl hf
   obtain⟨oo,cap,B,ex,hB,h1,CH,h3,h4,hk⟩:=iQ rx
   obtain⟨B',dz,R,ki,mm⟩:=S.row _ _ hg
   rw[hB]at dz;injection dz with dz;subst dz
   replace R:=R.row hk
   have Iw:B.sz=m+1:=R.sz.trans c2
   have zY:∀cs∈r.rows++ys,cs.length=m+1:=fun cs du=>by
    rcases List.mem_append.1 du with h|h
    ·rw[<-c2];exact R.len cs h
    ·exact hl cs h
   have MH:∀cs∈r.rows++ys,∀b∈cs,b.cell=true:=fun cs du=>by
    rcases List.mem_append.1 du with h|h
    ·exact R.flat cs h
    ·exact hf cs h
   rcases h2 with rfl|⟨yb,yo,news,rfl,q1,q2,q3,q4⟩
   ·have Gs:=S.rename hg c1 hB hn
    refine⟨_,w,kE ι id B,.inl (fV ho (by rw[ex,ey];exact pb ht hi _ _ _ h1 A c)),⟨Below.refl _ _,fun _ _=>rfl,fun _ h=>h,e9 hn,fun _ h=>.inl h⟩,?_,?_,fun _ h=>gn h⟩
    ·have:(⟨true,m+1,r.rows++[]⟩:Row)=r:=by cases r;simp_all
     rw[this];exact Gs
    ·simp only[List.length_nil,Nat.add_zero]
     exact .own _ _ _ _ _ B (dX _ _ _) hk h1 CH h3 h4
   ·obtain⟨cur,T,hblk,hC,we⟩:=R.cur
    by_cases fS:len+ys.length<=cap
    ·have SN:ys≠[]->oo=0:=fun h=>by
      rcases CH with CH|CH
      ·have:=List.length_pos_iff.2 h;omega
      ·simpa using CH
     by_cases hy0:ys=[]
     ·subst hy0
      have Gs:=S.rename hg c1 hB hn
      refine⟨_,w,kE ι id B,.inl (fV ho (by rw[ex,ey];exact pb ht hi _ _ _ h1 _ c)),⟨Below.refl _ _,fun _ _=>rfl,fun _ h=>h,e9 hn,fun _ h=>.inl h⟩,?_,?_,fun _ h=>gn h⟩
      ·have:(⟨true,m+1,r.rows++[]⟩:Row)=r:=by cases r;simp_all
       rw[this];exact Gs
      ·simp only[List.length_nil,Nat.add_zero]
       exact .own _ _ _ _ _ B (dX _ _ _) hk h1 CH h3 h4
     have ho0:=SN hy0
     subst ho0
     have sZ:len*i.size+news.length<=cur.size:=by
      rw[jD,q1,hC,<-Nat.add_mul]
      refine Nat.le_trans ?_ h3
      rw[Iw,Nat.zero_add]
      exact Nat.mul_le_mul_right _ fS
     have gh:=xX (ty:=o.type) ht hi B.b len cap cur hblk ⟨yb,yo,none⟩ ys.length c news (by rw[jD];exact q1) (fun j v hj=>by rw[kf];exact q2 j v hj) q4 fS sZ
     have nS:cur.toList.length=cur.size:=Array.length_toList
     simp only[jD]at gh sZ
     obtain⟨P1,P2⟩:=S.put (r':=⟨true,m+1,r.rows++ys⟩) hg c1 hB hblk (cur':=(cur.toList.take (len*(m+1))++news++cur.toList.drop (len*(m+1)+news.length)).toArray) (by simp only[List.size_toArray,List.length_append,List.length_take,List.length_drop,nS];omega) rfl c2.symm
      (by dsimp only;rw[List.length_append,<-c3,<-Iw];refine Nat.le_trans (Nat.mul_le_mul_right _ fS) (Nat.le_trans (by simp) h3)) zY MH (fun k j cs b2 hk hj=>by
       simp only[List.getElem?_toArray]
       have gZ:j<m+1:=by rw[<-zY cs (List.mem_of_getElem? hk)];exact(List.getElem?_eq_some_iff.1 hj).1
       rw[c2]
       by_cases l7:k<r.rows.length
       ·rw[List.getElem?_append_left l7]at hk
        have h2:k*(m+1)+j<len*(m+1):=jR (by omega) gZ
        rw[List.append_assoc,List.getElem?_append_left (by simp only[List.length_take,nS];omega),List.getElem?_take,if_pos h2]
        have:=we k j cs b2 hk hj
        rw[c2]at this;simpa using this
       ·rw[List.getElem?_append_right (by omega)]at hk
        have wi:=(List.getElem?_eq_some_iff.1 hk).1
        have qE:len*(m+1)<=k*(m+1):=Nat.mul_le_mul_right _ (by omega)
        have qH:k*(m+1)+j-len*(m+1)=(k-r.rows.length)*(m+1)+j:=by
         rw[<-c3,Nat.sub_mul];omega
        obtain⟨u,hu,xR⟩:=q3.2 _ _ (flat_get hl hk hj)
        refine⟨u,?_,xR⟩
        have Fj:news[(k-r.rows.length)*(m+1)+j]? =some u:=by simpa using hu
        have dS:=(List.getElem?_eq_some_iff.1 Fj).1
        rw[List.append_assoc,List.getElem?_append_right (by simp only[List.length_take,nS];omega),List.getElem?_append_left (by simp only[List.length_take,nS];omega)]
        rw[<-Fj]
        congr 1
        simp only[List.length_take,nS]
        omega)
     have eJ:bq (cu (bq g i0 ⟨true,m+1,r.rows++ys⟩) i0) id ⟨true,m+1,r.rows++ys⟩=bq (cu g i0) id ⟨true,m+1,r.rows++ys⟩:=by
      funext q;simp only[bq,cu]
      by_cases h:q=id<;>by_cases h':q=i0<;>simp[h,h']
     have Gs:=P1.rename (i:=i0) (id:=id) (r:=⟨true,m+1,r.rows++ys⟩) (by simp[bq]) rfl hB hn
     rw[eJ]at Gs
     refine⟨_,_,_,.inl (fV ho (by rw[ex,ey];exact gh)),P2.trans ⟨Below.refl _ _,fun _ _=>rfl,fun _ h=>h,e9 hn,fun _ h=>.inl h⟩,Gs,?_,fun _ h=>gn h⟩
     exact .own _ _ _ _ _ B (dX _ _ _) hk fS (.inr (by simp)) h3 h4
    ·
     have holds:∃uA:List Value,uA.length=len*(m+1)/\(∀j v,uA[j]? =some v->w.cell? ⟨B.b,oo+j,none⟩=some v)/\fe P w D ι r.rows.flatten uA.toArray:=by
      obtain⟨A2,c2',e2,h2⟩:=r7 (sz:=m+1) (u:=.slice (some ⟨B.b,oo,none⟩) len cap) S (.own i0 0 len oo cap B hB hk h1 CH h3 h4) (ys:=r.rows) (by simp[bw,hg,c3]) (fun cs h=>by rw[<-c2];exact R.len cs h) R.flat
      rcases h2 with h2|⟨b2,o2,uA,rfl,p1,p2,p3,_⟩
      ·refine⟨[],by simp[c3,h2],fun j v h=>by simp at h,by rw[h2];exact⟨rfl,fun j a h=>by simp at h⟩⟩
      ·injection e2 with e2 _ _
       injection e2 with e2
       injection e2 with e21 e22 _
       subst e21;subst e22
       exact⟨uA,by rw[p1,c3],p2,p3⟩
     obtain⟨uA,p1,p2,p3⟩:=holds
     have gh:=run_append_grow (P:=P) w t o.type e i zv ht hi qJ ⟨B.b,oo,none⟩ len cap uA (by rw[jD];exact p1) (fun j v hj=>by rw[kf];exact p2 j v hj) ⟨yb,yo,none⟩ ys.length c news (by rw[jD];exact q1) (fun j v hj=>by rw[kf];exact q2 j v hj) (by omega) (e63 _ c4) (growslice_fits (by omega) (fits _ c4))
     obtain⟨g1,g2⟩:=By w (len+ys.length) cap e c4
     have du:(uA.toArray++news.toArray++Builtin.zeroCells zv.cells (grownCap w (len+ys.length) cap e-(len+ys.length))).size=grownCap w (len+ys.length) cap e*(m+1):=by
      rw[Array.size_append,Array.size_append,size_zeroCells,P9,jD]
      simp only[List.size_toArray,q1,p1]
      rw[<-Nat.add_mul,<-Nat.add_mul];congr 1;omega
     have S1:=(S.kill i0).alloc (id:=id) (w':=w.drew.alloc (.cells (uA.toArray++news.toArray++Builtin.zeroCells zv.cells (grownCap w (len+ys.length) cap e-(len+ys.length))) e)) (r:=⟨true,m+1,r.rows++ys⟩) rfl hn rfl (by dsimp only;rw[du,List.length_append,<-c3];exact Nat.mul_le_mul_right _ g1) zY MH
      (fun k j cs b2 hk hj=>by
       have Ln:=flat_get zY hk hj
       rw[List.flatten_append]at Ln
       have Lw:uA.length=r.rows.flatten.length:=by have:=p3.1;simpa using this
       dsimp only
       by_cases dS:k*(m+1)+j<r.rows.flatten.length
       ·rw[List.getElem?_append_left dS]at Ln
        obtain⟨u,hu,xR⟩:=p3.2 _ _ Ln
        refine⟨u,?_,xR⟩
        rw[Array.getElem?_append_left (by simp;omega),Array.getElem?_append_left (by simp;omega)];exact hu
       ·rw[List.getElem?_append_right (by omega)]at Ln
        obtain⟨u,hu,xR⟩:=q3.2 _ _ Ln
        refine⟨u,?_,xR⟩
        have BE:=(Array.getElem?_eq_some_iff.1 hu).1
        simp only[List.size_toArray]at BE
        rw[Array.getElem?_append_left (by simp;omega),Array.getElem?_append_right (by simp;omega)]
        simp only[List.size_toArray,Lw];exact hu)
     have dF:=Cs (T:=e) S (uA.toArray++news.toArray++Builtin.zeroCells zv.cells (grownCap w (len+ys.length) cap e-(len+ys.length))) hn ⟨w.heap.size,m+1,(uA.toArray++news.toArray++Builtin.zeroCells zv.cells (grownCap w (len+ys.length) cap e-(len+ys.length))).size,none⟩
     refine⟨_,_,_,.inl (fV ho (by rw[ex,ey];exact gh)),dF,S1,?_,fun _ h=>gn h⟩
     refine .own _ _ _ _ _ _ (dX _ _ _) rfl g1 (.inr (by simp)) ?_ g2
     dsimp only;rw[du];simp
  ·simp at hv
 ·simp at hv
theorem k6 {x:Operand} {t:TypeId} {u:Value} (ho:o.op=.call {callee:=.builtin .clear,args:= #[x],argTypes:= #[t]}) (h:(Builtin.clear_ #[t] o.type #[a.eval x]).run P w=.ok u w'):(execOp a.eval o).run P w=.ok (.value u) w':=by
 simp only[execOp,ho,resolve,Sem.run_bind,Sem.run_pure,Result.andThen_ok,invoke,builtin]
 simp only[List.map_toArray,List.map_cons,List.map_nil]
 rw[h];rfl
theorem K7 {x:Operand} {x':O} {t e:TypeId} {m:Nat} {z:List K} {g':Rows} (S:gw P hs D ι g w) (E:cq P w D ι env a) (ho:o.op=.call {callee:=.builtin .clear,args:= #[x],argTypes:= #[t]})
  (ht:P.underlying t=some (.slice e)) (fj:dY P e=some (m+1)) (hz:jH P e=some z) (hx:cO P x=some x') (hv:bJ g z (cQ env x')=some g'):CT P hs a o w D ι id .undef g':=by
 have rx:=dj E hx
 obtain⟨it,zv,hi,qJ,P9,hm,Fo⟩:=jV hz
 have jD:it.size=m+1:=by simpa[dY,hi]using fj
 unfold bJ at hv
 split at hv
 ·rename_i hb
  rw[hb]at rx
  simp at hv;subst hv
  refine⟨undef,w,ι,.inl (k6 ho (by rw[kd rx];simp only[Builtin.clear_,Sem.run_bind];simp[run_underlying ht,undef])),Step.refl _ _ _ _,S,cI.undef,fun _ _=>rfl⟩
 ·rename_i i off len hb
  rw[hb]at rx
  simp only[Option.bind_eq_some_iff]at hv
  obtain⟨r,hg,hv⟩:=hv
  split at hv
  ·rename_i hc
   obtain⟨c1,c2,c3⟩:=hc
   simp only[Option.some.injEq]at hv;subst hv
   obtain⟨oo,cap,B,ex,hB,h1,h2,h3,h4,hk⟩:=iQ rx
   obtain⟨B',dz,R,ki,mm⟩:=S.row _ _ hg
   rw[hB]at dz;injection dz with dz;subst dz
   replace R:=R.row hk
   obtain⟨cur,T,hblk,hC,we⟩:=R.cur
   by_cases h0:len=0
   ·subst h0
    have e1:({r with rows:=r.rows.take off++List.replicate 0 (z.map K.av)++r.rows.drop (off+0)}:Row)=r:=by cases r;simp
    rw[e1]
    have e2:bq g i r=g:=by
     funext q;unfold bq;split
     ·rename_i h;rw[h,hg]
     ·rfl
    rw[e2]
    refine⟨undef,w,ι,.inl (k6 ho (by rw[ex];simp only[Builtin.clear_,Sem.run_bind];simp[run_underlying ht,undef])),Step.refl _ _ _ _,S,cI.undef,fun _ _=>rfl⟩
   ·have CN:oo=off*B.sz:=by rcases h2 with h2|h2<;>omega
    have Iw:B.sz=m+1:=by rw[R.sz,c2,Fo,jD]
    have yE:r.sz=m+1:=by rw[<-R.sz,Iw]
    have Rs:zv.cells.size=m+1:=by rw[P9,jD]
    have yH:(Builtin.zeroCells zv.cells len).toList.length=len*(m+1):=by rw[Array.length_toList,size_zeroCells,Rs]
    have Rr:∀k,k<len*(m+1)->∃c,z[k % z.length]? =some c/\(Builtin.zeroCells zv.cells len).toList[k]? =some c.val:=fun k hk=>by
     obtain⟨c,qd,Gj⟩:=pj (n:=len*zv.cells.size) hm (by rw[Fo,jD];omega) k (by rw[Rs];exact hk)
     exact⟨c,qd,by rw[Array.getElem?_toList];exact Gj⟩
    have hbound:(off+len)*(m+1)<=r.rows.length*(m+1):=Nat.mul_le_mul_right _ c3
    have BC:=R.fits
    rw[yE]at BC
    have Uh:(off+len)*(m+1)=off*(m+1)+len*(m+1):=Nat.add_mul _ _ _
    have dF:=run_storeCells_at P B.b oo T (Builtin.zeroCells zv.cells len).toList 0 cur w hblk (by rw[yH,hC,CN,Iw];omega) (by
     intro v hv
     obtain⟨k,hk,rfl⟩:=List.getElem_of_mem hv
     obtain⟨c,_,Gj⟩:=Rr k (by rw[<-yH];exact hk)
     rw[List.getElem?_eq_getElem hk]at Gj
     injection Gj with Gj
     rw[Gj];cases c<;>rfl)
    simp only[Nat.add_zero]at dF
    have nS:cur.toList.length=cur.size:=Array.length_toList
    obtain⟨P1,P2⟩:=S.put (r':={r with rows:=r.rows.take off++List.replicate len (z.map K.av)++r.rows.drop (off+len)}) hg c1 hB hblk (cur':=(cur.toList.take oo++(Builtin.zeroCells zv.cells len).toList++cur.toList.drop (oo+(Builtin.zeroCells zv.cells len).toList.length)).toArray)
     (by simp only[List.size_toArray,List.length_append,List.length_take,List.length_drop,nS,yH];rw[CN,Iw];omega) c1 rfl (by
      have:(r.rows.take off++List.replicate len (z.map K.av)++r.rows.drop (off+len)).length=r.rows.length:=by simp;omega
      dsimp only;rw[this];exact R.fits) (fun cs du=>by
      rcases List.mem_append.1 du with h|h
      ·rcases List.mem_append.1 h with h|h
       ·exact R.len cs (List.mem_of_mem_take h)
       ·rw[List.eq_of_mem_replicate h];simp[c2]
      ·exact R.len cs (List.mem_of_mem_drop h)) (fun cs du b hb=>by
      rcases List.mem_append.1 du with h|h
      ·rcases List.mem_append.1 h with h|h
       ·exact R.flat cs (List.mem_of_mem_take h) b hb
       ·rw[List.eq_of_mem_replicate h]at hb
        obtain⟨c,_,rfl⟩:=List.mem_map.1 hb;exact c.mU
      ·exact R.flat cs (List.mem_of_mem_drop h) b hb) (fun k j cs b hk hj=>by
      simp only[List.getElem?_toArray]
      rw[yE]
      rw[CN,Iw,yH]
      by_cases xC:k<off
      ·rw[List.append_assoc,List.getElem?_append_left (by simp;omega),List.getElem?_take,if_pos xC]at hk
       have gZ:j<m+1:=by rw[<-yE,<-R.len cs (List.mem_of_getElem? hk)];exact(List.getElem?_eq_some_iff.1 hj).1
       have h2:=jR xC gZ
       rw[List.append_assoc,List.getElem?_append_left (by simp only[List.length_take,nS];omega),List.getElem?_take,if_pos h2]
       have:=we k j cs b hk hj
       rw[yE]at this;simpa using this
      ·by_cases wi:k<off+len
       ·rw[List.append_assoc,List.getElem?_append_right (by simp;omega),List.getElem?_append_left (by simp;omega)]at hk
        have gL:=List.eq_of_mem_replicate (List.mem_of_getElem? hk)
        subst gL
        simp only[List.getElem?_map,Option.map_eq_some_iff]at hj
        obtain⟨q,hq,rfl⟩:=hj
        have gZ:=(List.getElem?_eq_some_iff.1 hq).1
        rw[Fo,jD]at gZ
        have qE:off*(m+1)<=k*(m+1):=Nat.mul_le_mul_right _ (by omega)
        have qH:k*(m+1)+j-off*(m+1)=(k-off)*(m+1)+j:=by rw[Nat.sub_mul];omega
        have BE:(k-off)*(m+1)+j<len*(m+1):=jR (by omega) gZ
        rw[List.append_assoc,List.getElem?_append_right (by simp only[List.length_take,nS];omega),List.getElem?_append_left (by simp only[List.length_take,nS,yH];omega)]
        obtain⟨c,qd,Gj⟩:=Rr _ BE
        rw[Fo,jD,Nat.mul_comm (k-off),Nat.mul_add_mod,Nat.mod_eq_of_lt gZ,hq]at qd
        injection qd with qd;subst qd
        refine⟨q.val,?_,wZ q⟩
        rw[<-Gj]
        congr 1
        simp only[List.length_take,nS];omega
       ·rw[List.getElem?_append_right (by simp;omega)]at hk
        simp only[List.length_append,List.length_take,List.length_replicate,List.getElem?_drop]at hk
        rw[show off+len+(k-(min off r.rows.length+len))=k by omega]at hk
        have l7:=(List.getElem?_eq_some_iff.1 hk).1
        have qE:(off+len)*(m+1)<=k*(m+1):=Nat.mul_le_mul_right _ (by omega)
        rw[List.getElem?_append_right (by simp only[List.length_append,List.length_take,nS,yH];omega)]
        simp only[List.length_append,List.length_take,nS,yH,List.getElem?_drop]
        rw[show off*(m+1)+len*(m+1)+(k*(m+1)+j-(min (off*(m+1)) cur.size+len*(m+1)))=k*(m+1)+j by omega]
        have:=we k j cs b hk hj
        rw[yE]at this;simpa using this)
    refine⟨undef,_,ι,.inl (k6 ho ?_),P2,P1,cI.undef,fun _ _=>rfl⟩
    rw[ex]
    cases len with
    |zero=>exact(h0 rfl).elim
    |succ len=>
     simp only[Builtin.clear_,Sem.run_bind]
     simp[run_underlying ht,zeroValue,typeInfo,hi,qJ,dF,undef]
  ·simp at hv
 ·simp at hv
theorem G7 {dT sT ty e:TypeId} {it:TypeInfo} (hu:P.underlying dT=some (.slice e)) (hi:P.info? e=some it) (A B:Option Addr) (sa Ef F3 NI:Nat) (h0:Nat.min sa F3=0):
  (Builtin.copy_ #[dT,sT] ty #[.slice A F3 NI,.slice B sa Ef]).run P w=.ok (goInt 0) w:=by
 cases A<;>cases B<;>simp[Builtin.copy_,run_underlying hu,Builtin.lenOf,Builtin.firstCells,sizeOf,typeInfo,hi,h0,storeCells,loadCells,loadCellsFrom]
theorem G8 {dT sT ty e:TypeId} {it:TypeInfo} (hu:P.underlying dT=some (.slice e)) (hi:P.info? e=some it) (A B:Addr) (sa Ef F3 NI:Nat) (cs:List Value) (hn:cs.length=Nat.min sa F3*it.size) (hl:(loadCells B cs.length).run P w=.ok cs.toArray w) (hs:(storeCells A cs).run P w=.ok () w'):
  (Builtin.copy_ #[dT,sT] ty #[.slice (some A) F3 NI,.slice (some B) sa Ef]).run P w=.ok (goInt (Nat.min sa F3)) w':=by
 simp[Builtin.copy_,run_underlying hu,Builtin.lenOf,Builtin.firstCells,sizeOf,typeInfo,hi,<-hn,hl,hs]
theorem qg {x y:Operand} {t t2:TypeId} {u:Value} (ho:o.op=.call {callee:=.builtin .copy,args:= #[x,y],argTypes:= #[t,t2]}) (h:(Builtin.copy_ #[t,t2] o.type #[a.eval x,a.eval y]).run P w=.ok u w'):(execOp a.eval o).run P w=.ok (.value u) w':=by
 simp only[execOp,ho,resolve,Sem.run_bind,Sem.run_pure,Result.andThen_ok,invoke,builtin]
 simp only[List.map_toArray,List.map_cons,List.map_nil]
 rw[h];rfl
theorem NJ {x y:Operand} {x' y':O} {t t2 e:TypeId} {m:Nat} {ys:List (List AV)} {v:AV} {g':Rows} (S:gw P hs D ι g w) (E:cq P w D ι env a) (ho:o.op=.call {callee:=.builtin .copy,args:= #[x,y],argTypes:= #[t,t2]})
  (ht:P.underlying t=some (.slice e)) (fj:dY P e=some (m+1)) (hx:cO P x=some x') (hy:cO P y=some y') (Fm:bw g (cQ env y')=some ys) (hv:FG g (m+1) (cQ env x') ys=some (v,g')):CT P hs a o w D ι id v g':=by
 have rx:=dj E hx
 have ry:=dj E hy
 obtain⟨it,hi,jD⟩:∃it,P.info? e=some it/\it.size=m+1:=by
  cases hq:P.info? e with
  |none=>simp[dY,hq]at fj
  |some it=>exact⟨it,rfl,by simpa[dY,hq]using fj⟩
 unfold FG at hv
 split at hv
 ·rename_i i off len hb
  rw[hb]at rx
  simp only[Option.bind_eq_some_iff]at hv
  obtain⟨r,hg,hv⟩:=hv
  split at hv
  ·rename_i hc
   obtain⟨c1,c2,c3,c4⟩:=hc
   simp only[Option.some.injEq,Prod.mk.injEq]at hv
   obtain⟨rfl,rfl⟩:=hv
   rw[List.all_eq_true]at c4
   have hl:∀c∈ys,c.length=m+1:=fun c hc=>by have:=c4 c hc;simp at this;exact this.1
   have hf:∀c∈ys,∀b∈c,b.cell=true:=fun c hc b hb=>by have:=c4 c hc;simp at this;exact this.2 b hb
   obtain⟨oo,cap,B,ex,hB,h1,h2,h3,h4,hk⟩:=iQ rx
   obtain⟨B',dz,R,ki,mm⟩:=S.row _ _ hg
   rw[hB]at dz;injection dz with dz;subst dz
   replace R:=R.row hk
   obtain⟨cur,T,hblk,hC,we⟩:=R.cur
   obtain⟨A,sc,hu,hA⟩:=r7 S ry Fm hl hf
   by_cases h0:min ys.length len=0
   ·rw[h0]
    have e1:({r with rows:=r.rows.take off++ys.take 0++r.rows.drop (off+0)}:Row)=r:=by cases r;simp
    rw[e1]
    have e2:bq g i r=g:=by
     funext q;unfold bq;split
     ·rename_i h;rw[h,hg]
     ·rfl
    rw[e2]
    refine⟨goInt 0,w,ι,.inl (qg ho (by rw[ex,hu];exact G7 ht hi _ _ _ _ _ _ h0)),Step.refl _ _ _ _,S,.eM _ _ (.int _ _),fun _ _=>rfl⟩
   ·rcases hA with rfl|⟨b,o2,news,rfl,ux,hsrc,hR,h1c⟩
    ·simp at h0
    have Q2:Nat.min ys.length len=min ys.length len:=rfl
    have hky:min ys.length len<=ys.length:=Nat.min_le_left _ _
    have l7:min ys.length len<=len:=Nat.min_le_right _ _
    generalize Ur:min ys.length len=kk at *
    have hlen0:len≠0:=by omega
    have CN:oo=off*B.sz:=by rcases h2 with h2|h2<;>omega
    have Iw:B.sz=m+1:=by rw[R.sz,c2]
    have yE:r.sz=m+1:=c2
    have SG:kk*(m+1)<=ys.length*(m+1):=Nat.mul_le_mul_right _ hky
    have yH:(news.take (kk*(m+1))).length=kk*(m+1):=by rw[List.length_take,ux];omega
    have hbound:(off+kk)*(m+1)<=r.rows.length*(m+1):=Nat.mul_le_mul_right _ (by omega)
    have BC:=R.fits
    rw[yE]at BC
    have Uh:(off+kk)*(m+1)=off*(m+1)+kk*(m+1):=Nat.add_mul _ _ _
    have dF:=run_storeCells_at P B.b oo T (news.take (kk*(m+1))) 0 cur w hblk (by rw[yH,hC,CN,Iw];omega) (fun v hv=>h1c v (List.mem_of_mem_take hv))
    have SJ:=run_loadCells_list (P:=P) w ⟨b,o2,none⟩ (news.take (kk*(m+1))) (fun j v hj=>by
     rw[List.getElem?_take]at hj
     split at hj
     ·have:=hsrc j v hj
      cases j with
      |zero=>simpa[Addr.add]using this
      |succ j=>simpa[Addr.add]using this
     ·cases hj)
    simp only[Nat.add_zero]at dF
    have nS:cur.toList.length=cur.size:=Array.length_toList
    have OE:(ys.take kk).length=kk:=by rw[List.length_take];omega
    obtain⟨P1,P2⟩:=S.put (r':={r with rows:=r.rows.take off++ys.take kk++r.rows.drop (off+kk)}) hg c1 hB hblk (cur':=(cur.toList.take oo++news.take (kk*(m+1))++cur.toList.drop (oo+(news.take (kk*(m+1))).length)).toArray)
     (by simp only[List.size_toArray,List.length_append,List.length_drop,nS,yH];rw[List.length_take,nS,CN,Iw];omega) c1 rfl (by
      have:(r.rows.take off++ys.take kk++r.rows.drop (off+kk)).length=r.rows.length:=by simp;omega
      dsimp only;rw[this];exact R.fits) (fun cs du=>by
      rcases List.mem_append.1 du with h|h
      ·rcases List.mem_append.1 h with h|h
       ·exact R.len cs (List.mem_of_mem_take h)
       ·rw[hl cs (List.mem_of_mem_take h)];exact c2.symm
      ·exact R.len cs (List.mem_of_mem_drop h)) (fun cs du b hb=>by
      rcases List.mem_append.1 du with h|h
      ·rcases List.mem_append.1 h with h|h
       ·exact R.flat cs (List.mem_of_mem_take h) b hb
       ·exact hf cs (List.mem_of_mem_take h) b hb
      ·exact R.flat cs (List.mem_of_mem_drop h) b hb) (fun k j cs b hk hj=>by
      simp only[List.getElem?_toArray]
      rw[yE]
      rw[CN,Iw,yH]
      by_cases xC:k<off
      ·rw[List.append_assoc,List.getElem?_append_left (by simp;omega),List.getElem?_take,if_pos xC]at hk
       have gZ:j<m+1:=by rw[<-yE,<-R.len cs (List.mem_of_getElem? hk)];exact(List.getElem?_eq_some_iff.1 hj).1
       have h2:=jR xC gZ
       rw[List.append_assoc,List.getElem?_append_left (by simp only[List.length_take,nS];omega),List.getElem?_take,if_pos h2]
       have:=we k j cs b hk hj
       rw[yE]at this;simpa using this
      ·by_cases wi:k<off+kk
       ·rw[List.append_assoc,List.getElem?_append_right (by simp;omega),List.getElem?_append_left (by simp;omega)]at hk
        simp only[List.length_take]at hk
        rw[show k-min off r.rows.length=k-off by omega,List.getElem?_take,if_pos (by omega)]at hk
        have gZ:j<m+1:=by rw[<-hl cs (List.mem_of_getElem? hk)];exact(List.getElem?_eq_some_iff.1 hj).1
        have qE:off*(m+1)<=k*(m+1):=Nat.mul_le_mul_right _ (by omega)
        have qH:k*(m+1)+j-off*(m+1)=(k-off)*(m+1)+j:=by rw[Nat.sub_mul];omega
        have BE:(k-off)*(m+1)+j<kk*(m+1):=jR (by omega) gZ
        rw[List.append_assoc,List.getElem?_append_right (by simp only[List.length_take,nS];omega),List.getElem?_append_left (by rw[yH];simp only[List.length_take,nS];omega)]
        obtain⟨u,Ri,hu2⟩:=hR.2 ((k-off)*(m+1)+j) b (flat_get hl hk hj)
        refine⟨u,?_,hu2⟩
        rw[List.getElem?_take]
        simp only[List.length_take,nS]
        rw[show k*(m+1)+j-min (off*(m+1)) cur.size=(k-off)*(m+1)+j by omega,if_pos BE]
        simpa using Ri
       ·rw[List.getElem?_append_right (by simp;omega)]at hk
        simp only[List.length_append,List.length_take,List.getElem?_drop]at hk
        rw[show off+kk+(k-(min off r.rows.length+min kk ys.length))=k by omega]at hk
        have l7:=(List.getElem?_eq_some_iff.1 hk).1
        have qE:(off+kk)*(m+1)<=k*(m+1):=Nat.mul_le_mul_right _ (by omega)
        rw[List.getElem?_append_right (by rw[List.length_append,yH];simp only[List.length_take,nS];omega)]
        rw[List.getElem?_drop,List.length_append,yH]
        simp only[List.length_take,nS]
        rw[show off*(m+1)+kk*(m+1)+(k*(m+1)+j-(min (off*(m+1)) cur.size+kk*(m+1)))=k*(m+1)+j by omega]
        have:=we k j cs b hk hj
        rw[yE]at this;simpa using this)
    refine⟨goInt kk,_,ι,.inl (qg ho ?_),P2,P1,.eM _ _ (.int _ _),fun _ _=>rfl⟩
    rw[ex,hu]
    have:=G8 (w:=w) (sT:=t2) (ty:=o.type) ht hi ⟨B.b,oo,none⟩ ⟨b,o2,none⟩ ys.length sc len cap _ (by rw[yH,Q2,jD]) SJ dF
    rw[Q2]at this
    exact this
  ·simp at hv
 ·simp at hv
end
end Go.Proofs.YtgoelphibofcmaaGreat.V

namespace Go.Proofs.YtgoelphibofcmaaGreat.V
open Go.RowKit
variable {P:Program} {w w':World} {D D' D2:Nat->Prop} {ι ι' ι2:Names}
section
variable {g:Rows} {hs:Nat}
theorem gF:∀{n:Nat} {l r:List AV},cN g n l=some r->r.length=l.length/\∀(j:Nat) (b:AV),r[j]? =some b->∃a,l[j]? =some a/\fz g n a=some b
 |n,[],r,h=>by
  rw[cN]at h;simp at h;subst h;simp
 |n,a::l,r,h=>by
  rw[cN]at h
  split at h
  ·rename_i b hb
   simp only[Option.map_eq_some_iff]at h
   obtain⟨r',hr,rfl⟩:=h
   obtain⟨h1,h2⟩:=gF hr
   refine⟨by simp[h1],fun j c hj=>?_⟩
   cases j with
   |zero=>simp at hj;subst hj;exact⟨a,rfl,hb⟩
   |succ j=>simp at hj ⊢;exact h2 j c hj
  ·simp at h
theorem v7:∀{n:Nat} {l r:List (List AV)},ea g n l=some r->r.length=l.length/\∀(j:Nat) (b:List AV),r[j]? =some b->∃a,l[j]? =some a/\cN g n a=some b
 |n,[],r,h=>by
  rw[ea]at h;simp at h;subst h;simp
 |n,a::l,r,h=>by
  rw[ea]at h
  split at h
  ·rename_i b hb
   simp only[Option.map_eq_some_iff]at h
   obtain⟨r',hr,rfl⟩:=h
   obtain⟨h1,h2⟩:=v7 hr
   refine⟨by simp[h1],fun j c hj=>?_⟩
   cases j with
   |zero=>simp at hj;subst hj;exact⟨a,rfl,hb⟩
   |succ j=>simp at hj ⊢;exact h2 j c hj
  ·simp at h
theorem rI (hD:∀b,D b->D2 b) (xH:∀id row,g id=some row->row.w=true->∃B,ι id=some B/\gM P w D ι B row/\D2 B.b):∀(n:Nat) (a:AV) (u:Value) (r:AV),cI P w D ι a u->fz g n a=some r->cI P w D2 ι2 r u/\(a.cell=true->jF P w D2 r u/\r.cell=true):=by
 intro n
 induction n with
 |zero=>intro a u r _ h;rw[fz]at h;simp at h
 |succ n ih=>
  intro a u r hr h
  have both:∀{r:AV},jF P w D2 r u->r.cell=true->cI P w D2 ι2 r u/\(a.cell=true->jF P w D2 r u/\r.cell=true):=fun h1 h2=>⟨.eM _ _ h1,fun _=>⟨h1,h2⟩⟩
  cases a with
  |map id m=>rw[fz]at h;cases h
  |rE id=>rw[fz]at h;cases h
  |own id off len=>
   rw[fz]at h
   split at h
   ·rename_i row hg
    split at h
    ·rename_i hw
     split at h
     ·rename_i hle
      simp only[Option.map_eq_some_iff]at h
      obtain⟨rows,oQ,rfl⟩:=h
      obtain⟨B,hB,R,NX⟩:=xH id row hg hw
      obtain⟨o,cap,B',rfl,dz,h1,h2,h3,h4,hk⟩:=iQ hr
      rw[hB]at dz;injection dz with dz;subst dz
      replace R:=R.row hk
      obtain⟨l1,l2⟩:=v7 oQ
      have hlen:rows.length=len:=by rw[l1];simp;omega
      by_cases h0:rows=[]
      ·subst h0
       simp at hlen;subst hlen
       exact both (.AU _ _ h4) rfl
      ·have hlp:0<len:=by rw[<-hlen];exact List.length_pos_iff.2 h0
       have ho:o=off*B.sz:=by rcases h2 with h2|h2<;>omega
       have src:∀i cs,rows[i]? =some cs->∃c0,row.rows[off+i]? =some c0/\cN g n c0=some cs:=fun i cs hi=>by
        obtain⟨c0,jI,hf⟩:=l2 i cs hi
        rw[List.getElem?_take]at jI
        split at jI
        ·rw[List.getElem?_drop]at jI;exact⟨c0,jI,hf⟩
        ·simp at jI
       have cell:∀i j,i<len->j<row.sz->∃c0 a0 v,row.rows[off+i]? =some c0/\c0[j]? =some a0/\w.cell? ⟨B.b,o+(i*row.sz+j),none⟩=some v/\cI P w D ι a0 v:=fun i j hi hj=>by
        have qW:off+i<row.rows.length:=by omega
        have e1:=List.getElem?_eq_getElem qW
        have KI:j<row.rows[off+i].length:=by rw[R.len _ (List.getElem_mem qW)];exact hj
        obtain⟨v,hv,lG⟩:=R.at_ _ _ _ _ e1 (List.getElem?_eq_getElem KI)
        refine⟨_,_,v,e1,List.getElem?_eq_getElem KI,?_,lG⟩
        rw[ho,R.sz,<-hv]
        congr 2
        rw[Nat.add_mul];omega
       refine both (.sl rows B.b o len cap row.sz (fun i j=>(w.cell? ⟨B.b,o+(i*row.sz+j),none⟩).getD undef) hlen h1 h4 NX (fun cs du=>?_) (fun cs du b hb=>?_) (fun i j hi hj=>?_) (fun i j cs b hi hj=>?_)) rfl
       ·obtain⟨i,hi,rfl⟩:=List.getElem_of_mem du
        obtain⟨c0,jI,hf⟩:=src i _ (List.getElem?_eq_getElem hi)
        rw[(gF hf).1];exact R.len c0 (List.mem_of_getElem? jI)
       ·obtain⟨i,hi,rfl⟩:=List.getElem_of_mem du
        obtain⟨c0,jI,hf⟩:=src i _ (List.getElem?_eq_getElem hi)
        obtain⟨j,hj,rfl⟩:=List.getElem_of_mem hb
        obtain⟨a0,lg,IG⟩:=(gF hf).2 j _ (List.getElem?_eq_getElem hj)
        obtain⟨v,_,lG⟩:=R.at_ _ _ _ _ jI lg
        exact((ih _ _ _ lG IG).2 (R.flat c0 (List.mem_of_getElem? jI) a0 (List.mem_of_getElem? lg))).2
       ·obtain⟨c0,a0,v,_,_,hv,_⟩:=cell i j hi hj
        simp only[hv,Option.getD_some]
       ·obtain⟨c0,jI,hf⟩:=src i cs hi
        obtain⟨a0,lg,IG⟩:=(gF hf).2 j b hj
        have lE:i<len:=by rw[<-hlen];exact(List.getElem?_eq_some_iff.1 hi).1
        have gZ:j<row.sz:=by rw[<-R.len c0 (List.mem_of_getElem? jI)];exact(List.getElem?_eq_some_iff.1 lg).1
        obtain⟨c1,a1,v,e1,e2,hv,lG⟩:=cell i j lE gZ
        rw[jI]at e1;injection e1 with e1;subst e1
        rw[lg]at e2;injection e2 with e2;subst e2
        simp only[hv,Option.getD_some]
        exact((ih _ _ _ lG IG).2 (R.flat c0 (List.mem_of_getElem? jI) a0 (List.mem_of_getElem? lg))).1
     ·simp at h
    ·simp at h
   ·simp at h
  |ptr id i off=>
   rw[fz]at h
   split at h
   ·rename_i row hg
    split at h
    ·rename_i hw
     split at h
     ·rename_i c0 jI
      simp only[Option.map_eq_some_iff]at h
      obtain⟨cs,du,rfl⟩:=h
      obtain⟨B,hB,R,NX⟩:=xH id row hg hw
      obtain⟨B',rfl,dz,hk⟩:=iA hr
      rw[hB]at dz;injection dz with dz;subst dz
      replace R:=R.row hk
      obtain⟨l1,l2⟩:=gF du
      have at_:∀j b,cs[j]? =some b->∃a0 v,w.cell? ⟨B.b,i*B.sz+off+j,none⟩=some v/\cI P w D ι a0 v/\a0.cell=true/\fz g n a0=some b:=fun j b hj=>by
       obtain⟨a0,lg,hf⟩:=l2 j b hj
       rw[List.getElem?_drop]at lg
       obtain⟨v,hv,lG⟩:=R.at_ _ _ _ _ jI lg
       refine⟨a0,v,?_,lG,R.flat c0 (List.mem_of_getElem? jI) a0 (List.mem_of_getElem? lg),hf⟩
       rw[R.sz,Nat.add_assoc];exact hv
      refine both (.di cs B.b _ (fun j=>(w.cell? ⟨B.b,i*B.sz+off+j,none⟩).getD undef) NX (fun b hb=>?_) (fun j hj=>?_) (fun j b hj=>?_)) rfl
      ·obtain⟨j,hj,rfl⟩:=List.getElem_of_mem hb
       obtain⟨a0,v,_,lG,hc,hf⟩:=at_ j _ (List.getElem?_eq_getElem hj)
       exact((ih _ _ _ lG hf).2 hc).2
      ·obtain⟨a0,v,hv,_⟩:=at_ j _ (List.getElem?_eq_getElem hj)
       simp only[hv,Option.getD_some]
      ·obtain⟨a0,v,hv,lG,hc,hf⟩:=at_ j b hj
       simp only[hv,Option.getD_some]
       exact((ih _ _ _ lG hf).2 hc).1
     ·simp at h
    ·simp at h
   ·simp at h
  |agg cs=>
   rw[fz]at h
   simp only[Option.map_eq_some_iff]at h
   obtain⟨r',oe,rfl⟩:=h
   obtain⟨vs,f,rfl,h1,h2,h3,h4⟩:=iP hr
   obtain⟨l1,l2⟩:=gF oe
   have hI:jF P w D2 (.agg r') (.agg vs):=.agg r' vs f (by rw[h1,l1]) (fun b hb=>by
    obtain⟨j,hj,rfl⟩:=List.getElem_of_mem hb
    obtain⟨a0,lg,hf⟩:=l2 j _ (List.getElem?_eq_getElem hj)
    exact((ih _ _ _ (h4 j a0 lg) hf).2 (h2 a0 (List.mem_of_getElem? lg))).2) (fun j hj=>h3 j (by rw[<-l1];exact hj)) (fun j b hj=>by
    obtain⟨a0,lg,hf⟩:=l2 j b hj
    exact((ih _ _ _ (h4 j a0 lg) hf).2 (h2 a0 (List.mem_of_getElem? lg))).1)
   exact⟨.eM _ _ hI,fun hc=>by simp[AV.cell]at hc⟩
  |gJ cs=>
   rw[fz]at h
   simp only[Option.map_eq_some_iff]at h
   obtain⟨r',oe,rfl⟩:=h
   obtain⟨vs,f,rfl,h1,h3,h4⟩:=uY hr
   obtain⟨l1,l2⟩:=gF oe
   exact⟨.gJ r' vs f (by rw[h1,l1]) (fun j hj=>h3 j (by rw[<-l1];exact hj)) (fun j b hj=>by
    obtain⟨a0,lg,hf⟩:=l2 j b hj
    exact(ih _ _ _ (h4 j a0 lg) hf).1),fun hc=>by simp[AV.cell]at hc⟩
  |fn f cL=>
   rw[fz]at h
   split at h
   ·rename_i dI
    simp only[Option.map_eq_some_iff]at h
    obtain⟨r',oe,rfl⟩:=h
    obtain⟨vs,q,rfl,h0,h1,h3,h4⟩:=Ai hr
    obtain⟨l1,l2⟩:=gF oe
    exact both (.fn f r' vs q h0 (by rw[h1,l1]) (fun j hj=>h3 j (by rw[<-l1];exact hj)) (fun j b hj=>by
     obtain⟨a0,lg,hf⟩:=l2 j b hj
     exact((ih _ _ _ (h4 j a0 lg) hf).2 (List.all_eq_true.1 dI a0 (List.mem_of_getElem? lg))).1)) rfl
   ·simp at h
  |int k m=>rw[fz]at h<;>(try simp at h)<;>(try subst h)<;>(try(rw[dq hr];exact⟨.eM _ _ (.int _ _),fun _=>⟨.int _ _,rfl⟩⟩))<;>(try(intros;simp_all))
  |bool b=>rw[fz]at h<;>(try simp at h)<;>(try subst h)<;>(try(rw[e6 hr];exact⟨.eM _ _ (.bool _),fun _=>⟨.bool _,rfl⟩⟩))<;>(try(intros;simp_all))
  |str b=>rw[fz]at h<;>(try simp at h)<;>(try subst h)<;>(try(rw[fC hr];exact⟨.eM _ _ (.str _),fun _=>⟨.str _,rfl⟩⟩))<;>(try(intros;simp_all))
  |cm=>rw[fz]at h<;>(try simp at h)<;>(try subst h)<;>(try(rw[kd hr];exact⟨.eM _ _ .cm,fun _=>⟨.cm,rfl⟩⟩))<;>(try(intros;simp_all))
  |iW=>rw[fz]at h<;>(try simp at h)<;>(try subst h)<;>(try(rw[w5 hr];exact⟨.eM _ _ .iW,fun _=>⟨.iW,rfl⟩⟩))<;>(try(intros;simp_all))
  |jj=>rw[fz]at h<;>(try simp at h)<;>(try subst h)<;>(try(rw[Cn hr];exact⟨.eM _ _ .jj,fun _=>⟨.jj,rfl⟩⟩))<;>(try(intros;simp_all))
  |tY f cL=>rw[fz]at h<;>(try simp at h)<;>(try(intros;simp_all))
  |gR=>rw[fz]at h<;>(try simp at h)<;>(try subst h)<;>(try(cases hr with|eM _ _ hr=>exact both (hr.frame (fun _ _=>rfl) hD) rfl))<;>(try(intros;simp_all))
  |sl rows=>rw[fz]at h<;>(try simp at h)<;>(try subst h)<;>(try(cases hr with|eM _ _ hr=>exact both (hr.frame (fun _ _=>rfl) hD) rfl))<;>(try(intros;simp_all))
  |di cs=>rw[fz]at h<;>(try simp at h)<;>(try subst h)<;>(try(cases hr with|eM _ _ hr=>exact both (hr.frame (fun _ _=>rfl) hD) rfl))<;>(try(intros;simp_all))
theorem iU:∀{n:Nat} {l r:List AV},er g n l=some r->r.length=l.length/\∀(j:Nat) (b:AV),r[j]? =some b->∃a,l[j]? =some a/\gx g n a=some b
 |n,[],r,h=>by
  rw[er]at h;simp at h;subst h;simp
 |n,a::l,r,h=>by
  rw[er]at h
  split at h
  ·rename_i b hb
   simp only[Option.map_eq_some_iff]at h
   obtain⟨r',hr,rfl⟩:=h
   obtain⟨h1,h2⟩:=iU hr
   refine⟨by simp[h1],fun j c hj=>?_⟩
   cases j with
   |zero=>simp at hj;subst hj;exact⟨a,rfl,hb⟩
   |succ j=>simp at hj ⊢;exact h2 j c hj
  ·simp at h
theorem tO:∀{n:Nat} {l r:List (List AV)},ib g n l=some r->r.length=l.length/\∀(j:Nat) (b:List AV),r[j]? =some b->∃a,l[j]? =some a/\er g n a=some b
 |n,[],r,h=>by
  rw[ib]at h;simp at h;subst h;simp
 |n,a::l,r,h=>by
  rw[ib]at h
  split at h
  ·rename_i b hb
   simp only[Option.map_eq_some_iff]at h
   obtain⟨r',hr,rfl⟩:=h
   obtain⟨h1,h2⟩:=tO hr
   refine⟨by simp[h1],fun j c hj=>?_⟩
   cases j with
   |zero=>simp at hj;subst hj;exact⟨a,rfl,hb⟩
   |succ j=>simp at hj ⊢;exact h2 j c hj
  ·simp at h
theorem Gd (xH:∀id row,g id=some row->row.w=true->∃B,ι id=some B/\gM P w D ι B row/\D2 B.b):∀(n:Nat) (a:AV) (u:Value) (r:AV),cI P w D ι a u->gx g n a=some r->cI P w D2 ι2 r u/\(a.cell=true->jF P w D2 r u/\r.cell=true):=by
 intro n
 induction n with
 |zero=>intro a u r _ h;rw[gx]at h;simp at h
 |succ n ih=>
  intro a u r hr h
  have both:∀{r:AV},jF P w D2 r u->r.cell=true->cI P w D2 ι2 r u/\(a.cell=true->jF P w D2 r u/\r.cell=true):=fun h1 h2=>⟨.eM _ _ h1,fun _=>⟨h1,h2⟩⟩
  cases a with
  |map id m=>rw[gx]at h<;>simp_all
  |rE id=>rw[gx]at h<;>simp_all
  |own id off len=>
   rw[gx]at h
   split at h
   ·rename_i row hg
    split at h
    ·rename_i hw
     split at h
     ·rename_i hle
      simp only[Option.map_eq_some_iff]at h
      obtain⟨rows,oQ,rfl⟩:=h
      obtain⟨B,hB,R,NX⟩:=xH id row hg hw
      obtain⟨o,cap,B',rfl,dz,h1,h2,h3,h4,hk⟩:=iQ hr
      rw[hB]at dz;injection dz with dz;subst dz
      replace R:=R.row hk
      obtain⟨l1,l2⟩:=tO oQ
      have hlen:rows.length=len:=by rw[l1];simp;omega
      by_cases h0:rows=[]
      ·subst h0
       simp at hlen;subst hlen
       exact both (.AU _ _ h4) rfl
      ·have hlp:0<len:=by rw[<-hlen];exact List.length_pos_iff.2 h0
       have ho:o=off*B.sz:=by rcases h2 with h2|h2<;>omega
       have src:∀i cs,rows[i]? =some cs->∃c0,row.rows[off+i]? =some c0/\er g n c0=some cs:=fun i cs hi=>by
        obtain⟨c0,jI,hf⟩:=l2 i cs hi
        rw[List.getElem?_take]at jI
        split at jI
        ·rw[List.getElem?_drop]at jI;exact⟨c0,jI,hf⟩
        ·simp at jI
       have cell:∀i j,i<len->j<row.sz->∃c0 a0 v,row.rows[off+i]? =some c0/\c0[j]? =some a0/\w.cell? ⟨B.b,o+(i*row.sz+j),none⟩=some v/\cI P w D ι a0 v:=fun i j hi hj=>by
        have qW:off+i<row.rows.length:=by omega
        have e1:=List.getElem?_eq_getElem qW
        have KI:j<row.rows[off+i].length:=by rw[R.len _ (List.getElem_mem qW)];exact hj
        obtain⟨v,hv,lG⟩:=R.at_ _ _ _ _ e1 (List.getElem?_eq_getElem KI)
        refine⟨_,_,v,e1,List.getElem?_eq_getElem KI,?_,lG⟩
        rw[ho,R.sz,<-hv]
        congr 2
        rw[Nat.add_mul];omega
       refine both (.sl rows B.b o len cap row.sz (fun i j=>(w.cell? ⟨B.b,o+(i*row.sz+j),none⟩).getD undef) hlen h1 h4 NX (fun cs du=>?_) (fun cs du b hb=>?_) (fun i j hi hj=>?_) (fun i j cs b hi hj=>?_)) rfl
       ·obtain⟨i,hi,rfl⟩:=List.getElem_of_mem du
        obtain⟨c0,jI,hf⟩:=src i _ (List.getElem?_eq_getElem hi)
        rw[(iU hf).1];exact R.len c0 (List.mem_of_getElem? jI)
       ·obtain⟨i,hi,rfl⟩:=List.getElem_of_mem du
        obtain⟨c0,jI,hf⟩:=src i _ (List.getElem?_eq_getElem hi)
        obtain⟨j,hj,rfl⟩:=List.getElem_of_mem hb
        obtain⟨a0,lg,IG⟩:=(iU hf).2 j _ (List.getElem?_eq_getElem hj)
        obtain⟨v,_,lG⟩:=R.at_ _ _ _ _ jI lg
        exact((ih _ _ _ lG IG).2 (R.flat c0 (List.mem_of_getElem? jI) a0 (List.mem_of_getElem? lg))).2
       ·obtain⟨c0,a0,v,_,_,hv,_⟩:=cell i j hi hj
        simp only[hv,Option.getD_some]
       ·obtain⟨c0,jI,hf⟩:=src i cs hi
        obtain⟨a0,lg,IG⟩:=(iU hf).2 j b hj
        have lE:i<len:=by rw[<-hlen];exact(List.getElem?_eq_some_iff.1 hi).1
        have gZ:j<row.sz:=by rw[<-R.len c0 (List.mem_of_getElem? jI)];exact(List.getElem?_eq_some_iff.1 lg).1
        obtain⟨c1,a1,v,e1,e2,hv,lG⟩:=cell i j lE gZ
        rw[jI]at e1;injection e1 with e1;subst e1
        rw[lg]at e2;injection e2 with e2;subst e2
        simp only[hv,Option.getD_some]
        exact((ih _ _ _ lG IG).2 (R.flat c0 (List.mem_of_getElem? jI) a0 (List.mem_of_getElem? lg))).1
     ·simp at h
    ·simp at h
   ·simp at h
  |ptr id i off=>
   rw[gx]at h
   split at h
   ·rename_i row hg
    split at h
    ·rename_i hw
     split at h
     ·rename_i c0 jI
      simp only[Option.map_eq_some_iff]at h
      obtain⟨cs,du,rfl⟩:=h
      obtain⟨B,hB,R,NX⟩:=xH id row hg hw
      obtain⟨B',rfl,dz,hk⟩:=iA hr
      rw[hB]at dz;injection dz with dz;subst dz
      replace R:=R.row hk
      obtain⟨l1,l2⟩:=iU du
      have at_:∀j b,cs[j]? =some b->∃a0 v,w.cell? ⟨B.b,i*B.sz+off+j,none⟩=some v/\cI P w D ι a0 v/\a0.cell=true/\gx g n a0=some b:=fun j b hj=>by
       obtain⟨a0,lg,hf⟩:=l2 j b hj
       rw[List.getElem?_drop]at lg
       obtain⟨v,hv,lG⟩:=R.at_ _ _ _ _ jI lg
       refine⟨a0,v,?_,lG,R.flat c0 (List.mem_of_getElem? jI) a0 (List.mem_of_getElem? lg),hf⟩
       rw[R.sz,Nat.add_assoc];exact hv
      refine both (.di cs B.b _ (fun j=>(w.cell? ⟨B.b,i*B.sz+off+j,none⟩).getD undef) NX (fun b hb=>?_) (fun j hj=>?_) (fun j b hj=>?_)) rfl
      ·obtain⟨j,hj,rfl⟩:=List.getElem_of_mem hb
       obtain⟨a0,v,_,lG,hc,hf⟩:=at_ j _ (List.getElem?_eq_getElem hj)
       exact((ih _ _ _ lG hf).2 hc).2
      ·obtain⟨a0,v,hv,_⟩:=at_ j _ (List.getElem?_eq_getElem hj)
       simp only[hv,Option.getD_some]
      ·obtain⟨a0,v,hv,lG,hc,hf⟩:=at_ j b hj
       simp only[hv,Option.getD_some]
       exact((ih _ _ _ lG hf).2 hc).1
     ·simp at h
    ·simp at h
   ·simp at h
  |agg cs=>
   rw[gx]at h
   simp only[Option.map_eq_some_iff]at h
   obtain⟨r',oe,rfl⟩:=h
   obtain⟨vs,f,rfl,h1,h2,h3,h4⟩:=iP hr
   obtain⟨l1,l2⟩:=iU oe
   have hI:jF P w D2 (.agg r') (.agg vs):=.agg r' vs f (by rw[h1,l1]) (fun b hb=>by
    obtain⟨j,hj,rfl⟩:=List.getElem_of_mem hb
    obtain⟨a0,lg,hf⟩:=l2 j _ (List.getElem?_eq_getElem hj)
    exact((ih _ _ _ (h4 j a0 lg) hf).2 (h2 a0 (List.mem_of_getElem? lg))).2) (fun j hj=>h3 j (by rw[<-l1];exact hj)) (fun j b hj=>by
    obtain⟨a0,lg,hf⟩:=l2 j b hj
    exact((ih _ _ _ (h4 j a0 lg) hf).2 (h2 a0 (List.mem_of_getElem? lg))).1)
   exact⟨.eM _ _ hI,fun hc=>by simp[AV.cell]at hc⟩
  |gJ cs=>
   rw[gx]at h
   simp only[Option.map_eq_some_iff]at h
   obtain⟨r',oe,rfl⟩:=h
   obtain⟨vs,f,rfl,h1,h3,h4⟩:=uY hr
   obtain⟨l1,l2⟩:=iU oe
   exact⟨.gJ r' vs f (by rw[h1,l1]) (fun j hj=>h3 j (by rw[<-l1];exact hj)) (fun j b hj=>by
    obtain⟨a0,lg,hf⟩:=l2 j b hj
    exact(ih _ _ _ (h4 j a0 lg) hf).1),fun hc=>by simp[AV.cell]at hc⟩
  |fn f cL=>rw[gx]at h<;>(try simp at h)<;>(try(intros;simp_all))
  |int k m=>rw[gx]at h<;>(try simp at h)<;>(try subst h)<;>(try(rw[dq hr];exact⟨.eM _ _ (.int _ _),fun _=>⟨.int _ _,rfl⟩⟩))<;>(try(intros;simp_all))
  |bool b=>rw[gx]at h<;>(try simp at h)<;>(try subst h)<;>(try(rw[e6 hr];exact⟨.eM _ _ (.bool _),fun _=>⟨.bool _,rfl⟩⟩))<;>(try(intros;simp_all))
  |str b=>rw[gx]at h<;>(try simp at h)<;>(try subst h)<;>(try(rw[fC hr];exact⟨.eM _ _ (.str _),fun _=>⟨.str _,rfl⟩⟩))<;>(try(intros;simp_all))
  |cm=>rw[gx]at h<;>(try simp at h)<;>(try subst h)<;>(try(rw[kd hr];exact⟨.eM _ _ .cm,fun _=>⟨.cm,rfl⟩⟩))<;>(try(intros;simp_all))
  |iW=>rw[gx]at h<;>(try simp at h)<;>(try subst h)<;>(try(rw[w5 hr];exact⟨.eM _ _ .iW,fun _=>⟨.iW,rfl⟩⟩))<;>(try(intros;simp_all))
  |jj=>rw[gx]at h<;>(try simp at h)<;>(try subst h)<;>(try(rw[Cn hr];exact⟨.eM _ _ .jj,fun _=>⟨.jj,rfl⟩⟩))<;>(try(intros;simp_all))
  |tY f cL=>rw[gx]at h<;>(try simp at h)<;>(try(intros;simp_all))
  |gR=>rw[gx]at h<;>(try simp at h)<;>(try subst h)<;>(try(cases hr with|eM _ _ hr=>cases hr;exact both .gR rfl))<;>(try(intros;simp_all))
  |sl rows=>rw[gx]at h<;>(try simp at h)<;>(try(intros;simp_all))
  |di cs=>rw[gx]at h<;>(try simp at h)<;>(try(intros;simp_all))
end
end Go.Proofs.YtgoelphibofcmaaGreat.V

namespace Go.Proofs.YtgoelphibofcmaaGreat.V
open Go.RowKit
variable {P:Program} {w w':World} {D D':Nat->Prop} {ι ι':Names}
section
variable {g:Rows} {hs:Nat} {env:Env} {a:Act} {o:Oper} {id:Id} {v:AV}
theorem gw.Ho (S:gw P hs D ι g w) {i:Id} {r r':Row} {B:sC} {ob:Obj} (hid:g i=some r) (hw:r.w=true) (hB:ι i=some B)
  (hR:(∀a v,cI P w D ι a v->cI P {w with heap:=w.heap.setIfInBounds B.b ob} D ι a v)->(w.heap.setIfInBounds B.b ob)[B.b]? =some ob->gM P {w with heap:=w.heap.setIfInBounds B.b ob} D ι B r'):
  gw P hs D ι (bq g i r') {w with heap:=w.heap.setIfInBounds B.b ob}/\Step hs D ι w D ι {w with heap:=w.heap.setIfInBounds B.b ob}:=by
 obtain⟨B0,Bz,R,ki,mm⟩:=S.row i r hid
 rw[hB]at Bz;injection Bz with Bz;subst Bz
 have other:∀b,b≠B.b->(w.heap.setIfInBounds B.b ob)[b]? =w.heap[b]? :=fun b hb=>by simp[Ne.symm hb]
 have hd:∀b,D b->(w.heap.setIfInBounds B.b ob)[b]? =w.heap[b]? :=fun b hb=>other b (by rintro rfl;exact mm hw hb)
 have hr:∀a v,cI P w D ι a v->cI P {w with heap:=w.heap.setIfInBounds B.b ob} D ι a v:=fun a v h=>h.frame hd (fun _ h=>h) (fun _ _ h=>h)
 refine⟨⟨by simpa using S.lo,fun b hb=>by simpa using S.dead b hb,fun j q h=>?_,fun j j' q q' C C' h h' IX hC uv he=>?_⟩,⟨⟨rfl,rfl,rfl,by simp,fun k hk=>other k (by have:=ki hw;omega)⟩,hd,fun _ h=>h,fun _ _ h=>h,fun _ h=>.inl h⟩⟩
 ·unfold bq at h
  split at h
  ·rename_i e
   subst e
   injection h with h;subst h
   exact⟨B,hB,hR hr (by simp[R.lt]),fun _=>ki hw,fun _=>mm hw⟩
  ·rename_i e
   obtain⟨C,hC,RC,k1,k2⟩:=S.row j q h
   refine⟨C,hC,RC.frame (other C.b (fun MN=>e ?_)) hr,k1,k2⟩
   exact(S.inj i j r q B C hid h hw hB hC MN.symm).symm
 ·unfold bq at h h'
  have get:∀j p,(if j=i then some r' else g j)=some p->∃p0,g j=some p0/\(p.w=true->p0.w=true):=fun j p hp=>by
   split at hp
   ·rename_i e;subst e;injection hp with hp;subst hp;exact⟨r,hid,fun _=>hw⟩
   ·exact⟨p,hp,fun h=>h⟩
  obtain⟨p,hp,PY⟩:=get _ _ h
  obtain⟨p',Oo,_⟩:=get _ _ h'
  exact S.inj j j' p p' C C' hp Oo (PY IX) hC uv he
theorem EV {s:TS} {x y:AV} {u v:Value} (he:fU s x y=some true) (hx:cI P w D ι x u) (hy:cI P w D ι y v):u=v/\∀n,Instr.sameBits n u v=true:=by
 unfold fU at he
 split at he
 ·split at he
  ·rename_i hk
   subst hk
   simp at he;subst he
   rw[dq hx,dq hy]
   exact⟨rfl,fun n=>by cases n<;>simp[Instr.sameBits]⟩
  ·cases he
 ·simp at he;subst he
  rw[e6 hx,e6 hy]
  exact⟨rfl,fun n=>by cases n<;>simp[Instr.sameBits]⟩
 ·simp at he;subst he
  rw[fC hx,fC hy]
  exact⟨rfl,fun n=>by cases n<;>simp[Instr.sameBits,HW]⟩
 ·cases he
theorem Bm {n:Nat}:∀{ts:List TS} {xs ys:List AV} {vs us:List Value},eX ts xs ys=some true->vs.length=xs.length->us.length=ys.length->(∀(j:Nat) (a:AV),xs[j]? =some a->∃u,vs[j]? =some u/\cI P w D ι a u)->(∀(j:Nat) (a:AV),ys[j]? =some a->∃u,us[j]? =some u/\cI P w D ι a u)->
  us.length=vs.length/\(us.zip vs).all (fun p=>Instr.sameBits n p.1 p.2)=true
 |[],[],[],vs,us,_,h1,h2,_,_=>by
  cases vs<;>cases us<;>simp_all
 |[],x::xs,ys,vs,us,h,_,_,_,_=>by simp[eX]at h
 |[],[],y::ys,vs,us,h,_,_,_,_=>by simp[eX]at h
 |t::ts,[],ys,vs,us,h,_,_,_,_=>by simp[eX]at h
 |t::ts,x::xs,[],vs,us,h,_,_,_,_=>by simp[eX]at h
 |t::ts,x::xs,y::ys,[],us,h,h1,_,_,_=>by simp at h1
 |t::ts,x::xs,y::ys,v::vs,[],h,_,h2,_,_=>by simp at h2
 |t::ts,x::xs,y::ys,v::vs,u::us,h,h1,h2,hx,hy=>by
  unfold eX at h
  split at h
  ·rename_i a b ha hb
   simp only[Option.some.injEq,Bool.and_eq_true]at h
   obtain⟨rfl,rfl⟩:=h
   obtain⟨v',nW,rv⟩:=hx 0 x rfl
   obtain⟨u',Fj,ru⟩:=hy 0 y rfl
   simp at nW Fj;subst nW;subst Fj
   obtain⟨e1,e2⟩:=EV ha rv ru
   obtain⟨q1,q2⟩:=Bm (n:=n) hb (by simpa using h1) (by simpa using h2) (fun j a hj=>by simpa using hx (j+1) a (by simpa using hj)) (fun j a hj=>by simpa using hy (j+1) a (by simpa using hj))
   refine⟨by simp[q1],?_⟩
   simp only[List.zip_cons_cons,List.all_cons,q2,Bool.and_true]
   rw[<-e1]
   have:=e2 n
   rw[<-e1]at this
   exact this
  ·cases h
theorem Ca {m:MK} {key:List AV}:∀{rows:List (List AV)} {i j:Nat},gi m key rows i=some (some j)->∃cs,i<=j/\rows[j-i]? =some cs/\eX m.ts key (cs.take m.ks)=some true
 |[],i,j,h=>by simp[gi]at h
 |cs::rows,i,j,h=>by
  unfold gi at h
  split at h
  ·rename_i hq
   simp at h;subst h
   exact⟨cs,Nat.le_refl _,by simp,hq⟩
  ·obtain⟨c,h1,h2,h3⟩:=Ca h
   exact⟨c,by omega,by rw[show j-i=(j-(i+1))+1 by omega];simpa using h2,h3⟩
  ·cases h
theorem wL {m:MK} {k:AV} {rows:List (List AV)} {fi:Option Nat} (h:fM m k rows=some fi):k.isAgg=m.ka/\k.cells.length=m.ks/\(k.cells.all AV.cell=true)/\gi m k.cells rows 0=some fi:=by
 unfold fM at h
 split at h
 ·rename_i hc;exact⟨hc.1,hc.2.1,hc.2.2,h⟩
 ·cases h
theorem JH {m:MK} {k y:AV} (h1:k.isAgg=m.ka) (h2:k.cells.length=m.ks):part m.ka m.ks (k.cells++[y])=some k/\(k.cells++[y])[m.ks]? =some y:=by
 refine⟨?_,by rw[List.getElem?_append_right (by omega),h2,Nat.sub_self];rfl⟩
 cases hk:m.ka with
 |false=>
  rw[hk]at h1
  rw[vM h1];rfl
 |true=>
  rw[hk]at h1
  cases k<;>simp[AV.isAgg]at h1
  rename_i cs
  simp only[AV.cells]at h2 ⊢
  simp only[part,if_true]
  rw[if_pos (by simp;omega),<-h2,List.take_left']
  rfl
theorem stays {k:TypeId} {m:MK} (hK:EH P k m) {key kv:AV} {u yY:Value} {cs:List AV} (h1:key.isAgg=m.ka) (hr:cI P w D ι key u) (hp:part m.ka m.ks cs=some kv) (ho:cI P w D ι kv yY) (he:eX m.ts key.cells (cs.take m.ks)=some true):(Instr.keyThatStays yY u).run P w=.ok u w:=by
 have hs:Instr.sameBits 10000 yY u=true:=by
  rcases hK with⟨s,rfl,hs⟩|⟨fs,ts,rfl,rJ,xS,dF,dI⟩
  ·rw[vM h1]at he
   cases cs with
   |nil=>simp[part]at hp
   |cons c l=>
    simp[part]at hp;subst hp
    simp only[MK.ks,List.length_cons,List.length_nil,Nat.zero_add,List.take_succ_cons,List.take_zero,eX]at he
    cases hq:fU s key c with
    |none=>rw[hq]at he;simp at he
    |some b=>
     rw[hq]at he;simp at he;subst he
     obtain⟨e1,e2⟩:=EV hq hr ho
     rw[<-e1]
     have:=e2 10000
     rwa [<-e1]at this
  ·cases key<;>simp[AV.isAgg]at h1
   rename_i ks
   simp only[part,if_true]at hp
   split at hp
   ·simp only[Option.some.injEq]at hp;subst hp
    obtain⟨vs,rfl,n1,r1⟩:=r5 hr
    obtain⟨us,rfl,n2,r2⟩:=r5 ho
    obtain⟨q1,q2⟩:=Bm (n:=9999) (vs:=vs.toList) (us:=us.toList) he (by simpa[AV.cells]using n1) (by simpa using n2) (fun j a hj=>by simpa using r1 j a hj) (fun j a hj=>by simpa using r2 j a hj)
    simp only[Instr.sameBits,Bool.and_eq_true,beq_iff_eq]
    exact⟨by simpa using q1,q2⟩
   ·cases hp
 simp[Instr.keyThatStays,hs]
theorem J0 {es:Array MapEntry} {clock:Nat} (h:KV es clock) (k v:Value):KV (es.push ⟨k,v,clock⟩) (clock+1):=by
 refine⟨fun x hx=>?_,?_⟩
 ·simp only[Array.toList_push,List.mem_append,List.mem_singleton]at hx
  rcases hx with hx|rfl
  ·have:=h.1 x hx;omega
  ·exact Nat.lt_succ_self _
 ·simp only[Array.toList_push,List.map_append,List.map_cons,List.map_nil]
  refine List.nodup_append.2 ⟨h.2,by simp,fun a ha b hb=>?_⟩
  obtain⟨x,hx,rfl⟩:=List.mem_map.1 ha
  simp at hb;subst hb
  have:=h.1 x hx;omega
theorem Eo {es:Array MapEntry} {clock:Nat} (h:KV es clock) (j:Nat) (k v:Value):KV (es.modify j fun e=>{e with key:=k,val:=v}) clock:=by
 have e:(es.modify j fun e=>{e with key:=k,val:=v}).toList.map (·.born)=es.toList.map (·.born):=by
  refine List.ext_getElem? fun i=>?_
  simp only[List.getElem?_map,Array.getElem?_toList,Array.getElem?_modify]
  split
  ·cases es[i]? <;>rfl
  ·rfl
 refine⟨fun x hx=>?_,by rw[e];exact h.2⟩
 have hb:x.born∈(es.modify j fun e=>{e with key:=k,val:=v}).toList.map (·.born):=List.mem_map_of_mem hx
 rw[e]at hb
 obtain⟨y,hy,hyb⟩:=List.mem_map.1 hb
 rw[<-hyb];exact h.1 y hy
theorem Hb {es:Array MapEntry} {clock:Nat} (h:KV es clock) {j:Nat} (hj:j<es.size):KV (es.eraseIdxIfInBounds j) clock:=by
 have e:(es.eraseIdxIfInBounds j).toList=es.toList.eraseIdx j:=by
  unfold Array.eraseIdxIfInBounds
  rw[dif_pos hj,Array.toList_eraseIdx]
 refine⟨fun x hx=>h.1 x ((List.eraseIdx_sublist _ _).subset (by rwa [e]at hx)),?_⟩
 rw[e]
 exact((List.eraseIdx_sublist es.toList j).map (·.born)).nodup h.2
theorem Bs {k y:AV} (h1:k.cells.all AV.cell=true) (h2:y.cell=true):∀a∈k.cells++[y],a.cell=true:=fun a ha=>by
 rcases List.mem_append.1 ha with ha|ha
 ·exact List.all_eq_true.1 h1 a ha
 ·rw[List.mem_singleton.1 ha];exact h2
theorem NL {t:TypeId} {x k y:Operand} {m:MK} {z:K} {x' k' y':O} {g':Rows} (S:gw P hs D ι g w) (E:cq P w D ι env a) (ho:o.op=.mapUpdate t x k y∨o.op=.insert t x k y) (hc:sN P t=some (m,z)) (hx:cO P x=some x') (hk:cO P k=some k') (hy:cO P y=some y')
  (hv:bG (.set m) [cQ env x',cQ env k',cQ env y'] g=some g'):CT P hs a o w D ι id .undef g':=by
 obtain⟨kt,e,i,zv,ht,hi,qJ,SI,hK⟩:=rz hc
 simp only[bG,Option.bind_eq_some_iff]at hv
 obtain⟨p,hp,fi,Gl,hv⟩:=hv
 split at hv
 ·rename_i hcond
  obtain⟨hw,hyc,_⟩:=hcond
  simp only[Option.some.injEq]at hv;subst hv
  obtain⟨B,hu,hg,hB,uM,es,clock,hb,fj,hlen,hM⟩:=z7 S (dj E hx) hp
  have rk:=dj E hk
  have ry:=dj E hy
  obtain⟨KE,res,hf,hF⟩:=vV (B:=B) hK rk fj hM Gl
  obtain⟨k1,k2,k3,k4⟩:=wL Gl
  obtain⟨B',dz,R,_⟩:=S.row p.1 p.2 hg
  rw[hB]at dz;injection dz with dz;subst dz
  obtain⟨pk1,pk2⟩:=JH (y:=cQ env y') k1 k2
  have fu:(getObj B.b).run P w=.ok (.map es clock) w:=MapKept.run_getObj_map hb
  rcases hF with⟨rfl,rfl⟩|⟨j,en,rfl,he,rfl⟩
  ·have nU:=S.Ho (ob:=.map (es.push ⟨a.eval k,a.eval y,clock⟩) (clock+1)) (r':={p.2 with rows:=dM p.2.rows ((cQ env k').cells++[cQ env y']) none}) hg hw hB fun hr kj=>⟨R.sz,fun cs du=>?_,fun xz=>(by rw[uM]at xz;cases xz),fun m' BF=>?_,fun c hc=>(by rw[uM]at hc;cases hc)⟩
   ·refine⟨undef,_,ι,.inr ⟨?_,rfl⟩,nU.2,nU.1,cI.undef,fun _ _=>rfl⟩
    rcases ho with ho|ho<;>
    ·simp only[execOp,ho,Instr.mapUpdate,hu,Sem.run_bind,run_underlying ht,Result.andThen_ok,fu,KE,hf,MapKept.run_setObj_map _ hb,Sem.run_pure]
   ·rcases List.mem_append.1 du with h|h
    ·exact R.flat cs h
    ·rw[List.mem_singleton.1 h];exact Bs k3 hyc
   ·rw[uM]at BF;simp only[Option.some.injEq,BK.map.injEq]at BF;subst BF
    refine⟨(R.map m uM).1,_,_,kj,by simp[dM,fj],⟨fun cs du=>?_,J0 hlen.2 _ _⟩,fun q cs hq=>?_⟩
    ·rcases List.mem_append.1 du with h|h
     ·exact hlen.1 cs h
     ·rw[List.mem_singleton.1 h];simp[k2]
    ·rcases Nat.lt_or_ge q p.2.rows.length with dS|qE
     ·simp only[dM]at hq
      rw[List.getElem?_append_left dS]at hq
      obtain⟨en,kv,vv,q1,q2,q3,q4,q5⟩:=hM q cs hq
      exact⟨en,kv,vv,by rw[Array.getElem?_push_lt (by omega)];rw[Array.getElem?_eq_getElem (by omega)]at q1;simpa using q1,q2,q3,hr _ _ q4,hr _ _ q5⟩
     ·simp only[dM]at hq
      rw[List.getElem?_append_right qE]at hq
      have MX:q=p.2.rows.length:=by
       have:=(List.getElem?_eq_some_iff.1 hq).1
       simp at this;omega
      subst MX
      simp at hq;subst hq
      exact⟨⟨a.eval k,a.eval y,clock⟩,_,_,by rw[<-fj];simp,pk1,pk2,hr _ _ rk,hr _ _ ry⟩
  ·simp only[Nat.zero_add]at k4 Gl hf ⊢
   obtain⟨PK,_,Ll,heq⟩:=Ca k4
   simp only[Nat.sub_zero]at Ll
   obtain⟨Qu,kv,vv,q1,q2,_,q4,_⟩:=hM j PK Ll
   have Hu:Qu=en:=by
    have h1:es.toList[j]? =some Qu:=by simpa using q1
    rw[he]at h1;injection h1 with h1;exact h1.symm
   subst Hu
   have dF:=stays (w:=w) hK k1 rk q2 q4 heq
   have nU:=S.Ho (ob:=.map (es.modify j fun e=>{e with key:=a.eval k,val:=a.eval y}) clock) (r':={p.2 with rows:=dM p.2.rows ((cQ env k').cells++[cQ env y']) (some j)}) hg hw hB fun hr kj=>⟨R.sz,fun cs du=>?_,fun xz=>(by rw[uM]at xz;cases xz),fun m' BF=>?_,fun c hc=>(by rw[uM]at hc;cases hc)⟩
   ·refine⟨undef,_,ι,.inr ⟨?_,rfl⟩,nU.2,nU.1,cI.undef,fun _ _=>rfl⟩
    rcases ho with ho|ho<;>
    ·simp only[execOp,ho,Instr.mapUpdate,hu,Sem.run_bind,run_underlying ht,Result.andThen_ok,fu,KE,hf,q1,Option.map_some,Option.getD_some,dF,MapKept.run_setObj_map _ hb,Sem.run_pure]
   ·rcases List.mem_or_eq_of_mem_set du with h|h
    ·exact R.flat cs h
    ·rw[h];exact Bs k3 hyc
   ·rw[uM]at BF;simp only[Option.some.injEq,BK.map.injEq]at BF;subst BF
    have gZ:=(List.getElem?_eq_some_iff.1 Ll).1
    refine⟨(R.map m uM).1,_,_,kj,by simp[dM,fj],⟨fun cs du=>?_,Eo hlen.2 _ _ _⟩,fun q cs hq=>?_⟩
    ·rcases List.mem_or_eq_of_mem_set du with h|h
     ·exact hlen.1 cs h
     ·rw[h];simp[k2]
    ·simp only[dM,List.getElem?_set]at hq
     split at hq
     ·rename_i PS
      subst PS
      (try rw[if_pos gZ]at hq)
      injection hq with hq;subst hq
      exact⟨{Qu with key:=a.eval k,val:=a.eval y},_,_,by rw[Array.getElem?_modify];simp[q1],pk1,pk2,hr _ _ rk,hr _ _ ry⟩
     ·rename_i PS
      obtain⟨en,kv,vv,q1,q2,q3,q4,q5⟩:=hM q cs hq
      exact⟨en,kv,vv,by rw[Array.getElem?_modify];simp[PS,q1],q2,q3,hr _ _ q4,hr _ _ q5⟩
 ·cases hv
theorem NK {t t':TypeId} {x k:Operand} {m:MK} {z:K} {x' k':O} {g':Rows} (S:gw P hs D ι g w) (E:cq P w D ι env a) (ho:o.op=.call {callee:=.builtin .delete,args:= #[x,k],argTypes:= #[t,t']}) (hc:sN P t=some (m,z)) (hx:cO P x=some x') (hk:cO P k=some k')
  (hv:bG (.del m) [cQ env x',cQ env k'] g=some g'):CT P hs a o w D ι id .undef g':=by
 obtain⟨kt,e,i,zv,ht,hi,qJ,SI,hK⟩:=rz hc
 simp only[bG,Option.bind_eq_some_iff]at hv
 obtain⟨p,hp,fi,Gl,hv⟩:=hv
 split at hv
 ·rename_i hw
  simp only[Option.some.injEq]at hv;subst hv
  obtain⟨B,hu,hg,hB,uM,es,clock,hb,fj,hlen,hM⟩:=z7 S (dj E hx) hp
  have rk:=dj E hk
  obtain⟨KE,res,hf,hF⟩:=vV (B:=B) hK rk fj hM Gl
  obtain⟨k1,k2,k3,k4⟩:=wL Gl
  obtain⟨B',dz,R,_⟩:=S.row p.1 p.2 hg
  rw[hB]at dz;injection dz with dz;subst dz
  have fu:(getObj B.b).run P w=.ok (.map es clock) w:=MapKept.run_getObj_map hb
  have go:∀ob,(Builtin.delete_ #[t,t'] o.type #[a.eval x,a.eval k]).run P w=.ok (.tuple #[]) {w with heap:=w.heap.setIfInBounds B.b ob}->(execOp a.eval o).run P w=.ok (.value undef) {w with heap:=w.heap.setIfInBounds B.b ob}:=fun ob h=>by
   simp only[execOp,ho,resolve,Sem.run_bind,Sem.run_pure,Result.andThen_ok,invoke,builtin,Array.map]
   simp[h,undef]
  rcases hF with⟨rfl,rfl⟩|⟨j,en,rfl,he,rfl⟩
  ·have nU:=S.Ho (ob:=.map es clock) (r':={p.2 with rows:=dK p.2.rows none}) hg hw hB fun hr kj=>⟨R.sz,R.flat,fun xz=>(by rw[uM]at xz;cases xz),fun m' BF=>?_,fun c hc=>(by rw[uM]at hc;cases hc)⟩
   ·refine⟨undef,_,ι,.inl (go _ ?_),nU.2,nU.1,cI.undef,fun _ _=>rfl⟩
    simp[Builtin.delete_,hu,run_underlying ht,fu,KE,hf,MapKept.run_setObj_map _ hb]
   ·rw[uM]at BF;simp only[Option.some.injEq,BK.map.injEq]at BF;subst BF
    exact⟨(R.map m uM).1,_,_,kj,fj,hlen,fun q cs hq=>by
     obtain⟨en,kv,vv,q1,q2,q3,q4,q5⟩:=hM q cs hq
     exact⟨en,kv,vv,q1,q2,q3,hr _ _ q4,hr _ _ q5⟩⟩
  ·simp only[Nat.zero_add]at hf ⊢
   have gZ:j<es.size:=by have:=(List.getElem?_eq_some_iff.1 he).1;simpa using this
   have nU:=S.Ho (ob:=.map (es.eraseIdxIfInBounds j) clock) (r':={p.2 with rows:=dK p.2.rows (some j)}) hg hw hB fun hr kj=>⟨R.sz,fun cs du=>R.flat cs (List.mem_of_mem_eraseIdx du),fun xz=>(by rw[uM]at xz;cases xz),fun m' BF=>?_,fun c hc=>(by rw[uM]at hc;cases hc)⟩
   ·refine⟨undef,_,ι,.inl (go _ ?_),nU.2,nU.1,cI.undef,fun _ _=>rfl⟩
    simp[Builtin.delete_,hu,run_underlying ht,fu,KE,hf,MapKept.run_setObj_map _ hb]
   ·rw[uM]at BF;simp only[Option.some.injEq,BK.map.injEq]at BF;subst BF
    have he2:∀q,(es.eraseIdxIfInBounds j)[q]? =(es.toList.eraseIdx j)[q]? :=fun q=>by
     unfold Array.eraseIdxIfInBounds
     rw[dif_pos gZ,<-Array.getElem?_toList,Array.toList_eraseIdx]
    refine⟨(R.map m uM).1,_,_,kj,by simp[dK,Array.eraseIdxIfInBounds,gZ,List.length_eraseIdx,<-fj],⟨fun cs du=>hlen.1 cs (List.mem_of_mem_eraseIdx du),Hb hlen.2 gZ⟩,fun q cs hq=>?_⟩
    simp only[dK,List.getElem?_eraseIdx]at hq
    split at hq
    ·rename_i dS
     obtain⟨en,kv,vv,q1,q2,q3,q4,q5⟩:=hM q cs hq
     exact⟨en,kv,vv,by rw[he2,List.getElem?_eraseIdx,if_pos dS];simpa using q1,q2,q3,hr _ _ q4,hr _ _ q5⟩
    ·rename_i dS
     obtain⟨en,kv,vv,q1,q2,q3,q4,q5⟩:=hM (q+1) cs hq
     exact⟨en,kv,vv,by rw[he2,List.getElem?_eraseIdx,if_neg dS];simpa using q1,q2,q3,hr _ _ q4,hr _ _ q5⟩
 ·cases hv
end
end Go.Proofs.YtgoelphibofcmaaGreat.V
