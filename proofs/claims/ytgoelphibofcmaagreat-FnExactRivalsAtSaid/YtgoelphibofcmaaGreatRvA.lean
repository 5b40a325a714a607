/- A small language in which the program's functions are read by value: its values, its operations, its code, and how the program's code is brought into it. -/
import Derived.WalkKit
import Derived.WalkSpells
import Derived.WalkLawsBesides
import Derived.Lib.Hide
import Derived.Great.BuildSlice
import Derived.Conc.LoneCalls
import Derived.MapKept
import Derived.WideKeyRuns
set_option linter.unusedVariables false
set_option linter.unusedSimpArgs false
set_option maxRecDepth 100000
set_option maxHeartbeats 16000000
namespace Go.Proofs.YtgoelphibofcmaaGreat.V
open Go.RowKit
structure Id where
  site:Nat
  bm:Nat
  deriving DecidableEq,Repr
inductive TS where
  |tI|tB|tS
  deriving Repr,DecidableEq
structure MK where
  ka:Bool
  ts:List TS
  deriving Repr,DecidableEq
inductive AV where
  |int (k:IntKind) (n:Int)
  |bool (b:Bool)
  |str (s:ByteArray)
  |bV|gP|jb
  |sl (rows:List (List AV))
  |own (id:Id) (off len:Nat)
  |ptr (id:Id) (i off:Nat)
  |dm (cs:List AV)
  |agg (cs:List AV)
  |iC (vs:List AV)
  |fn (f:Nat) (cZ:List AV)
  |map (id:Id) (m:MK)
  |jk
  |tT (f:Nat) (first:List AV)
  |rK (id:Id)
  deriving Inhabited
def AV.undef:AV:=.iC []
def AV.cell:AV->Bool
  | .agg _| .iC _=>false
  |_=>true
def AV.cells:AV->List AV
  | .agg cs=>cs
  |v=>[v]
inductive K where
  |int (k:IntKind) (n:Int)
  |bool (b:Bool)
  |str (l:List UInt8)
  |bV|gP|jb|jk
  deriving Repr,DecidableEq
def K.val:K->Value
  | .int k n=>.int k n
  | .bool b=>.bool b
  | .str l=>.string ⟨l.toArray⟩
  | .bV=>.slice none 0 0
  | .gP=>.pointer none
  | .jb=>.nilFunc
  | .jk=>.map none
def K.av:K->AV
  | .int k n=>.int k n
  | .bool b=>.bool b
  | .str l=>.str ⟨l.toArray⟩
  | .bV=>.bV
  | .gP=>.gP
  | .jb=>.jb
  | .jk=>.jk
def GM:Value->Option K
  | .int k n=>some (.int k n)
  | .bool b=>some (.bool b)
  | .string s=>some (.str s.data.toList)
  | .slice none 0 0=>some .bV
  | .pointer none=>some .gP
  | .nilFunc=>some .jb
  | .map none=>some .jk
  |_=>none
inductive O where
  |t (n:Nat)
  |k (c:K)
  |ka (cs:List K)
  |f (n:Nat)
  deriving Repr,DecidableEq
inductive MQ where
  |new (m:MK)
  |look (m:MK) (ok:Bool) (zero:K)
  |len (m:MK)
  deriving Repr,DecidableEq
inductive MW where
  |set (m:MK)
  |del (m:MK)
  deriving Repr,DecidableEq
inductive gC where
  |dd (x:O)
  |pick (c a b:O)
  |new (zero:List K)
  |box (x:O)
  |build (zero:List K) (parts:List (Nat×Nat×O))
  |mN (sz len:Nat) (parts:List O)
  |load (agg:Bool) (n:Nat) (a:O)
  |store (n:Nat) (a x:O)
  |Au (x:O)
  |bin (op:BinOp) (k:IntKind) (x y:O)
  |sh (left:Bool) (x y:O)
  |K7 (op:BinOp) (x y:O)
  |M7 (neg:Bool) (t:TS) (x y:O)
  |SE (neg:Bool) (ts:List TS) (x y:O)
  |QT (neg L0:Bool) (x:O)
  |SF (neg:Bool) (x:O)
  |not (x:O)
  |neg (x:O)
  |conv (k:IntKind) (x:O)
  |E7 (x:O)
  |slice (sz:Nat) (x:O) (lo hi:Option O)
  |Ah (x:O) (lo hi:Option O)
  |fH (off:Nat) (x:O)
  |field (agg:Bool) (off n:Nat) (x:O)
  |dG (sz:Nat) (x i:O)
  |LS (len sz:Nat) (x i:O)
  |LW (x i:O)
  |eJ (agg:Bool) (len n:Nat) (x i:O)
  |extract (i:Nat) (x:O)
  |len (x:O)
  |L6 (x:O)
  |append (sz:Nat) (x y:O)
  |copy (sz:Nat) (x y:O)
  |clear (zero:List K) (x:O)
  |Me (f:Nat) (cZ:List O)
  |Mf (f:Nat) (first:List O)
  |jU (zero:List K) (len cap:O)
  |call (f:Nat) (args:List O)
  |tC (x:O) (args:List O)
  |mq (q:MQ) (xs:List O)
  |mw (q:MW) (xs:List O)
  |JB (x:O)
  |Jn (x:O)
  |snd (x y:O)
  |Pq (x:O)
  |bad
  deriving Repr,DecidableEq
structure bq where
  dst:Option Nat
  op:gC
  guard:Option (Nat×Bool)
  site:Nat
  hid:List Nat
  deriving Repr,DecidableEq
def q (d:Nat) (op:gC) (s:Nat):bq:=⟨some d,op,none,s,[]⟩
inductive VC where
  |skip
  |eB (draw:Bool) (ops:List bq)
  |seq (a b:VC)
  |cond (c:O) (x y:VC)
  |block (id:Nat) (c:VC)
  |loop (c:VC)
  |exit (id:Nat)
  |ret
  |one (o:bq) (c:VC)
  |both (a b:VC)
  |loc (t s:Nat) (y:O) (c:VC)
  |N5 (ops:List bq)
  deriving Repr,DecidableEq
inductive oj where
  |tmp (t:Nat)
  |cell (agg:Bool) (n:Nat) (t:Nat)
  deriving Repr,DecidableEq
structure y8 where
  ntmps:Nat
  yL:Nat
  body:VC
  res:List oj
  deriving Repr,DecidableEq
def fQ (P:Program) (f:Nat):Bool:=
  match P.funcs[f]? with
  |some fn=>fn.body.isSome&& !(fn.name== "runtime.NumGoroutine")
  |none=>false
def cO (P:Program):Operand->Option O
  | .tmp t=>some (.t t)
  | .const (.agg cs)=>(cs.toList.mapM GM).map O.ka
  | .const v=>(GM v).map O.k
  | .global _=>none
  | .func f=>if fQ P f then some (.f f)else none
def jF (P:Program) (t:TypeId):Option (List K):=
  match P.info? t with
  |some i=>match i.zero with
    |some v=>if v.cells.size=i.size then v.cells.toList.mapM GM else none
    |none=>none
  |none=>none
def ei (P:Program) (t:TypeId):Option Nat:=(P.info? t).map (·.size)
def nO (P:Program) (t:TypeId):Option Bool:=
  match P.underlying t with
  |some (.struct _)|some (.array _ _)=>some true
  |some _=>some false
  |none=>none
inductive TB where
  |sc (t:TS)|ag (ts:List TS)
  deriving Repr,DecidableEq
def fj (P:Program) (t:TypeId):Option TS:=
  match P.underlying t with
  |some .bool=>some .tB
  |some (.int _)=>some .tI
  |some .string=>some .tS
  |_=>none
def Dp (P:Program) (inner:List Field->Option (List TS)):Nat->List Field->Option (List TS)
  |_,[]=>some []
  |off,f::r=>
    if f.offset=off/\f.name≠ "_" then
      match fj P f.type with
      |some t=>if nO P f.type=some false then(Dp P inner (off+1) r).map (t::·)else none
      |none=>match P.underlying f.type with
        |some (.struct fs)=>if !P.stoodInHeld f.type then match inner fs.toList with
          |some ts=>if ei P f.type=some ts.length/\ts≠[]then(Dp P inner (off+ts.length) r).map (ts++·)else none
          |none=>none else none
        |_=>none
    else none
def eG (P:Program):Nat->Nat->List Field->Option (List TS)
  |0,_,[]=>some []
  |0,_,_::_=>none
  |d+1,off,fs=>Dp P (eG P d 0) off fs
def TK (P:Program) (t:TypeId):Option TB:=
  match fj P t with
  |some s=>some (.sc s)
  |none=>match P.underlying t with
    |some (.struct fs)=>if !P.stoodInHeld t&& !P.eqGuardType P.depth t then(eG P 4 0 fs.toList).map TB.ag else none
    |_=>none
def sO (P:Program) (fs:Array Field):List (Nat×O)->Option (List (Nat×Nat×O))
  |[]=>some []
  |(i,x)::r=>match fs[i]? with
    |some f=>match ei P f.type with
      |some n=>(sO P fs r).map ((f.offset,n,x)::·)
      |none=>none
    |none=>none
def sR (P:Program) (ps:Array (Nat×Operand)):Option (List (Nat×O)):=ps.toList.mapM fun(i,x)=>(cO P x).map (i,·)
def rI (P:Program):Option Operand->Option (Option O)
  |none=>some none
  |some x=>(cO P x).map some
def sP (P:Program) (neg:Bool) (t:TypeId) (x y:Operand):Option gC:=
  match y with
  | .const (.slice none 0 0)=>match P.underlying t with
    |some (.slice _)=>(cO P x).map (gC.QT neg false)
    |_=>none
  | .const .nilFunc=>match P.underlying t with
    |some (.func ..)=>(cO P x).map (gC.QT neg true)
    |_=>none
  | .const (.pointer none)=>match P.underlying t with
    |some (.pointer _)=>(cO P x).map (gC.SF neg)
    |_=>none
  |_=>match TK P t with
    |some (.sc s)=>do pure (.M7 neg s (<-cO P x) (<-cO P y))
    |some (.ag ts)=>do pure (.SE neg ts (<-cO P x) (<-cO P y))
    |_=>none
def vh (P:Program) (op:BinOp) (t:TypeId) (x y:Operand):Option gC:=
  match op with
  | .eql=>sP P false t x y
  | .neq=>sP P true t x y
  | .shl=>do pure (.sh true (<-cO P x) (<-cO P y))
  | .shr=>do pure (.sh false (<-cO P x) (<-cO P y))
  |op=>match P.underlying t with
    |some (.int k)=>do pure (.bin op k (<-cO P x) (<-cO P y))
    |some .string=>do pure (.K7 op (<-cO P x) (<-cO P y))
    |_=>none
def sQ (P:Program) (t:TypeId):Option (MK×K):=
  match P.underlying t with
  |some (.map k e)=>match nO P e,(P.info? e).bind (·.zero),fj P k,P.underlying k with
    |some false,some zv,some s,_=>(GM zv).map fun z=>(⟨false,[s]⟩,z)
    |some false,some zv,none,some (.struct fs)=>match eG P 4 0 fs.toList,GM zv with
      |some ts,some z=>if !P.stoodInHeld k/\fs.toList.all (fun f=>(fj P f.type).isSome)then some (⟨true,ts⟩,z)else none
      |_,_=>none
    |_,_,_,_=>none
  |_=>none
def nC (P:Program) (c:Call):Option gC:=
  match c.callee with
  | .builtin .len=>match c.args.toList,c.argTypes.toList with
    |[x],[t]=>match P.underlying t with
      |some (.slice _)=>(cO P x).map gC.len
      |some .string=>(cO P x).map gC.L6
      |some (.map _ _)=>match sQ P t,cO P x with
        |some (m,_),some x=>some (.mq (.len m) [x])
        |_,_=>none
      |some (.chan _ _)=>(cO P x).map gC.Jn
      |_=>none
    |_,_=>none
  | .builtin .append=>match c.args.toList,c.argTypes.toList with
    |[x,y],[t,u]=>match P.underlying t with
      |some (.slice e)=>match ei P e,jF P e,P.info? e with
        |some (sz+1),some _,some i=>if i.bytes<=32768/\t=u then do pure (.append (sz+1) (<-cO P x) (<-cO P y))else none
        |_,_,_=>none
      |_=>none
    |_,_=>none
  | .builtin .clear=>match c.args.toList,c.argTypes.toList with
    |[x],[t]=>match P.underlying t with
      |some (.slice e)=>match ei P e,jF P e with
        |some (_+1),some z=>(cO P x).map (gC.clear z)
        |_,_=>none
      |_=>none
    |_,_=>none
  | .value (.func f)=>if fQ P f then(c.args.toList.mapM (cO P)).map (gC.call f)else none
  | .value (.tmp t)=>(c.args.toList.mapM (cO P)).map (gC.tC (.t t))
  | .builtin .delete=>match c.args.toList,c.argTypes.toList with
    |[x,k],[t,_]=>match sQ P t,cO P x,cO P k with
      |some (m,_),some x,some k=>some (.mw (.del m) [x,k])
      |_,_,_=>none
    |_,_=>none
  | .builtin .copy=>match c.args.toList,c.argTypes.toList with
    |[x,y],[t,_]=>match P.underlying t with
      |some (.slice e)=>match ei P e with
        |some (sz+1)=>do pure (.copy (sz+1) (<-cO P x) (<-cO P y))
        |_=>none
      |_=>none
    |_,_=>none
  |_=>none
def rf (P:Program) (o:Op):Option gC:=
  match o with
  | .move x| .assign x=>(cO P x).map gC.dd
  | .pick c a b=>do pure (.pick (<-cO P c) (<-cO P a) (<-cO P b))
  | .alloc e=>(jF P e).map gC.new
  | .box _ x=>(cO P x).map gC.box
  | .load t a=>do pure (.load (<-nO P t) (<-ei P t) (<-cO P a))
  | .store t a x=>do pure (.store (<-ei P t) (<-cO P a) (<-cO P x))
  | .nilCheck x=>(cO P x).map gC.Au
  | .binOp op t x y _=>vh P op t x y
  | .unOp .not _ x=>(cO P x).map gC.not
  | .unOp .neg _ x=>(cO P x).map gC.neg
  | .convert s d x=>match P.underlying s,P.underlying d with
    |some (.int _),some (.int k)=>(cO P x).map (gC.conv k)
    |some .string,some .string=>(cO P x).map gC.E7
    |_,_=>none
  | .slice t x lo hi none=>match P.underlying t with
    |some (.slice e)=>do
      pure (.slice (<-ei P e) (<-cO P x) (<-rI P lo) (<-rI P hi))
    |some .string=>do pure (.Ah (<-cO P x) (<-rI P lo) (<-rI P hi))
    |_=>none
  | .fieldAddr s x i=>match P.underlying s with
    |some (.struct fs)=>match fs[i]? with
      |some f=>match ei P f.type with
        |some (_+1)=>(cO P x).map (gC.fH f.offset)
        |_=>none
      |none=>none
    |_=>none
  | .field s x i=>match P.underlying s with
    |some (.struct fs)=>match fs[i]? with
      |some f=>do pure (.field (<-nO P f.type) f.offset (<-ei P f.type) (<-cO P x))
      |none=>none
    |_=>none
  | .indexAddr t x i=>match P.underlying t with
    |some (.slice e)=>match ei P e with
      |some (m+1)=>do pure (.dG (m+1) (<-cO P x) (<-cO P i))
      |_=>none
    |some (.array len e)=>match ei P e with
      |some (m+1)=>do pure (.LS len (m+1) (<-cO P x) (<-cO P i))
      |_=>none
    |_=>none
  | .index t x i=>match P.underlying t with
    |some .string=>do pure (.LW (<-cO P x) (<-cO P i))
    |some (.array len e)=>do pure (.eJ (<-nO P e) len (<-ei P e) (<-cO P x) (<-cO P i))
    |_=>none
  | .extract x i=>(cO P x).map (gC.extract i)
  | .build t ps=>match P.underlying t with
    |some (.struct fs)=>
      match jF P t,sR P ps with
      |some z,some l=>
        if fs.all (fun f=>(P.info? f.type).isSome)then(sO P fs l).map (gC.build z)else none
      |_,_=>none
    |some (.array _ e)=>
      match jF P t,sR P ps,ei P e with
      |some z,some l,some n=>some (.build z (l.map fun(i,x)=>(i*n,n,x)))
      |_,_,_=>none
    |_=>none
  | .buildSlice t len ps=>match P.underlying t with
    |some (.slice e)=>match ei P e,jF P e,sR P ps with
      |some (sz+1),some _,some l=>
        if len*(sz+1)<=4096/\l.map (·.1)=List.range len then some (.mN (sz+1) len (l.map (·.2)))else none
      |_,_,_=>none
    |_=>none
  | .makeFunc (.func f) first cZ=>
    if first= #[]/\fQ P f then(cZ.toList.mapM (cO P)).map (gC.Me f)else if cZ= #[]/\fQ P f then(first.toList.mapM (cO P)).map (gC.Mf f)else none
  | .makeSlice t l c=>match P.underlying t with
    |some (.slice e)=>match ei P e,jF P e,P.info? e with
      |some (_+1),some z,some i=>if i.bytes<=32768 then do pure (.jU z (<-cO P l) (<-cO P c))else none
      |_,_,_=>none
    |_=>none
  | .call c=>nC P c
  | .makeChan t n=>match P.underlying t with
    |some (.chan _ e)=>match P.info? e with
      |some i=>if i.bytes<=32768 then(cO P n).map gC.JB else none
      |none=>none
    |_=>none
  | .send x y=>do pure (.snd (<-cO P x) (<-cO P y))
  | .recv t x false=>match P.underlying t with
    |some (.chan _ e)=>match (P.info? e).bind (·.zero)with
      |some _=>(cO P x).map gC.Pq
      |none=>none
    |_=>none
  | .makeMap t none=>match sQ P t with
    |some (m,_)=>some (.mq (.new m) [])
    |none=>none
  | .lookup t x k ok=>match sQ P t,cO P x,cO P k with
    |some (m,z),some x,some k=>some (.mq (.look m ok z) [x,k])
    |_,_,_=>none
  | .mapUpdate t x k v| .insert t x k v=>match sQ P t,cO P x,cO P k,cO P v with
    |some (m,_),some x,some k,some v=>some (.mw (.set m) [x,k,v])
    |_,_,_,_=>none
  | .makeInterface _ _=>some .bad
  | .panic _=>some .bad
  |_=>none
inductive TA where
  |pure|look|make|write
  deriving DecidableEq,Repr
def gC.cls:gC->TA
  | .new _| .box _| .mN .. | .jU .. | .mq (.new _) _| .JB _=>.make
  | .load .. | .dG .. | .slice .. | .call .. | .tC .. | .mq .. | .Jn _=>.look
  | .store .. | .append .. | .copy .. | .clear .. | .mw .. | .snd .. | .Pq _=>.write
  |_=>.pure
def clash:TA->TA->Bool
  | .pure,_|_,.pure=>false
  | .write,_|_,.write=>true
  |_,_=>false
def jz (ops:Array Oper):Array Nat:=Region.before ops
def qP:gC->Bool:=fun o=>o.cls==.make||o.cls==.write
def gC.lP:gC->Bool
  | .call .. | .tC .. =>true
  |_=>false
def Da (ops:Array Oper) (o:Oper):Option (Option (Nat×Bool)):=
  match o.guard with
  |none=>some none
  |some (i,b)=>match (ops[i]?).bind (·.dst)with
    |some t=>some (some (t,b))
    |none=>none
def ma (P:Program) (ops:Array Oper) (nt site0:Nat) (draw mk:Bool) (bs:Array Nat) (hidden:List (Nat×Bool)) (j:Nat) (o:Oper):Option bq:=do
  let v <-rf P o.op
  let g <-Da ops o
  if (o.dst.all fun d=>decide (d<nt))then
    pure {dst:=o.dst,op:=v,guard:=g,site:=site0+j,hid:=if draw then(hidden.filter fun(i,m)=>m&& !(bs.getD j 0).testBit i&&(i !=j||mk&&v.lP)).map fun(i,_)=>site0+i else[]}
  else none
def allM {α:Type} (f:Nat->Oper->Option α):List Oper->Nat->Option (List α)
  |[],_=>some []
  |o::r,j=>do pure ((<-f j o)::(<-allM f r (j+1)))
def gQ:O->List Nat
  | .t n=>[n]
  |_=>[]
def wE:Option O->List Nat
  |some x=>gQ x
  |none=>[]
def gC.gI:gC->List Nat
  | .clear _ x| .dd x| .box x| .load _ _ x| .Au x| .QT _ _ x| .SF _ x| .not x| .neg x| .conv _ x| .E7 x| .fH _ x| .field _ _ _ x| .extract _ x| .len x| .L6 x| .JB x| .Jn x| .Pq x=>gQ x
  | .pick c a b=>gQ c++gQ a++gQ b
  | .new _| .bad=>[]
  | .build _ ps=>ps.flatMap fun(_,_,x)=>gQ x
  | .mN _ _ ps=>ps.flatMap gQ
  | .store _ a x| .snd a x=>gQ a++gQ x
  | .bin _ _ x y| .sh _ x y| .K7 _ x y| .M7 _ _ x y| .SE _ _ x y| .dG _ x y| .LS _ _ x y| .LW x y| .eJ _ _ _ x y| .append _ x y| .copy _ x y| .jU _ x y=>gQ x++gQ y
  | .slice _ x lo hi| .Ah x lo hi=>gQ x++wE lo++wE hi
  | .Me _ l| .Mf _ l| .call _ l| .mq _ l| .mw _ l=>l.flatMap gQ
  | .tC x l=>gQ x++l.flatMap gQ
def bq.gI (v:bq):List Nat:=v.op.gI++(match v.guard with|some (t,_)=>[t]|none=>[])
def tq (x y:bq):Bool:=
  (match x.dst with
   |some d=> !y.gI.contains d&&y.dst !=some d
   |none=>true)&&
  (match y.dst with
   |some d=> !x.gI.contains d
   |none=>true)
def bq.makes (v:bq):Bool:=qP v.op||v.op.lP&&v.hid.contains v.site
def Fm (x y:bq):Bool:=
  tq x y&& !clash x.op.cls y.op.cls&&(!x.makes||y.hid.contains x.site)&&(!y.makes||x.hid.contains y.site)&&x.site !=y.site
def Fb (ops:Array Oper):Bool:=ops.toList.zipIdx.all fun(o,j)=>o.after.all fun e=> !Region.binds .any e||decide (e.on<j)
def oF (ops:Array Oper) (vl:List bq) (bs:Array Nat):Bool:=
  Fb ops&&vl.zipIdx.all fun(y,j)=>vl.zipIdx.all fun(x,i)=> !(decide (i<j))||(bs.getD j 0).testBit i||Fm x y
def rJ (P:Program) (nt site0:Nat) (ops:Array Oper) (draw mk:Bool):Option (List bq):=
  let bs:=if draw then jz ops else #[]
  let hidden:=if draw then ops.toList.zipIdx.map fun(o,i)=>(i,((rf P o.op).map fun v=>qP v||mk&&v.lP).getD false)else[]
  match allM (ma P ops nt site0 draw mk bs hidden) ops.toList 0 with
  |some vl=>if !draw||oF ops vl bs then some vl else none
  |none=>none
def k5 (v:bq):Bool:= !v.op.lP&&v.op.cls !=.write
def yf (x y:bq):Bool:=tq x y&&x.op.cls==.pure||Fm x y&&k5 x&&k5 y
def qy (ops:Array Oper) (vl:List bq) (bs:Array Nat) (listed:Array Bool) (i:Nat):Bool:=
  match vl[i]? with
  |some x=>(List.range ops.size).all fun j=>listed.getD j false||j==i||(bs.getD j 0).testBit i||(match vl[j]? with|some y=>yf x y|none=>false)
  |none=>false
def Nx (vl:List bq) (x:bq):Option (Nat×Nat×O):=
  match x.op,x.guard with
  | .append _ (.t t) y,none=>match vl.find? fun v=>v.dst==some t&&v.op.cls==.make with
    |some v=>some (t,v.site,y)
    |none=>none
  |_,_=>none
def Fk (s:Nat) (x y:bq):Bool:=tq x y&&k5 y&&y.hid.contains s&&y.hid.contains x.site&&y.site !=s&&y.site !=x.site
def oH (ops:Array Oper) (vl:List bq) (bs:Array Nat) (listed:Array Bool) (i s:Nat):Bool:=
  match vl[i]? with
  |some x=>(List.range ops.size).all fun j=>listed.getD j false||j==i||(bs.getD j 0).testBit i||(match vl[j]? with|some y=>Fk s x y|none=>false)
  |none=>false
def Pd (ops:Array Oper) (vl:List bq) (bs:Array Nat) (listed:Array Bool) (i:Nat):Option (Nat×Nat×Nat×O×bq):=
  match vl[i]? with
  |some x=>match Nx vl x with
    |some (t,s,y)=>if oH ops vl bs listed i s then some (i,t,s,y,x)else none
    |none=>none
  |none=>none
def AU:List VC->Option VC
  |[]=>none
  |[c]=>some c
  |c::r=>(AU r).map (VC.both c)
def xe (ops:Array Oper) (vl:List bq) (bs:Array Nat):Nat->Array Bool->Option VC
  |0,listed=>
    match Region.ready .any ops listed with
    |[]=>some (.eB false [])
    |_::_=>none
  |n+1,listed=>
    match Region.ready .any ops listed with
    |[]=>some (.eB false [])
    |r::rs=>let rdy:=r::rs
      match rdy.find? (qy ops vl bs listed)with
      |some i=>match vl[i]? with
        |some vo=>(xe ops vl bs n (listed.setIfInBounds i true)).map (VC.one vo)
        |none=>none
      |none=>match rdy.findSome? (Pd ops vl bs listed)with
        |some (i,t,s,y,vo)=>(xe ops vl bs n (listed.setIfInBounds i true)).map fun c=>VC.loc t s y (.one vo c)
        |none=>match rdy.mapM fun i=>(vl[i]?).bind fun vo=>(xe ops vl bs n (listed.setIfInBounds i true)).map (VC.one vo)with
          |some l=>AU l
          |none=>none
def Nv:Op->Bool
  | .send .. | .recv .. =>true
  |_=>false
def QM (P:Program) (nt site0:Nat) (ops:Array Oper) (draw:Bool) (mode:Nat):Option VC:=
  if draw&&mode==2 then
    match allM (ma P ops nt site0 true false (jz ops) (ops.toList.zipIdx.map fun(o,i)=>(i,((rf P o.op).map qP).getD false))) ops.toList 0 with
    |some vl=>xe ops vl (jz ops) ops.size (Array.replicate ops.size false)
    |none=>none
  else if !draw&&ops.any (fun o=>Nv o.op)then(rJ P nt site0 ops false false).map VC.N5
  else(rJ P nt site0 ops draw (mode==1)).map (VC.eB draw)
def wq (md:List (Nat×Nat)) (id:Nat):Nat:=
  match md with
  |[]=>0
  |(i,m)::r=>if i=id then m else wq r id
def jE (P:Program) (md:List (Nat×Nat)) (nt vG:Nat):Code->Option VC
  | .skip=>some .skip
  | .region id ops draw=>QM P nt ((vG*1000+id)*1000) ops draw (wq md id)
  | .seq a b=>do pure (.seq (<-jE P md nt vG a) (<-jE P md nt vG b))
  | .cond c x y=>do pure (.cond (<-cO P c) (<-jE P md nt vG x) (<-jE P md nt vG y))
  | .block id c=>(jE P md nt vG c).map (VC.block id)
  | .loop c=>(jE P md nt vG c).map VC.loop
  | .exit id=>some (.exit id)
  | .ret=>some .ret
  |_=>none
def Db (P:Program) (r:ResultVar):Option oj:=
  match r with
  | .tmp t=>some (.tmp t)
  | .cell a t=>do pure (.cell (<-nO P t) (<-ei P t) a)
def vk (P:Program) (f:Nat) (md:List (Nat×Nat)):Option y8:=
  match P.funcs[f]? with
  |some fn=>match fn.body with
    |some c=>do
      let b <-jE P md fn.ntmps f c
      let r <-fn.results.toList.mapM (Db P)
      if fn.params.size+fn.nfree<=fn.ntmps then pure {ntmps:=fn.ntmps,yL:=fn.params.size+fn.nfree,body:=b,res:=r}else none
    |none=>none
  |none=>none
def mO (P:Program) (f:Nat):Option y8:=vk P f []
structure Row where
 w:Bool
 sz:Nat
 rows:List (List AV)
abbrev Rows:=Id->Option Row
structure ar where
 get:Rows
 next:Nat
abbrev Env:=Nat->AV
def upd (env:Env):Option Nat->AV->Env
 |some d,v=>fun t=>if t=d then v else env t
 |none,_=>env
inductive Ex where
 |normal
 |exit (id:Nat)
 |ret
 deriving DecidableEq
def da (env:Env):O->AV
 | .t n=>env n
 | .k c=>c.av
 | .ka cs=>.agg (cs.map K.av)
 | .f n=>.fn n []
def bF (g:Rows) (id:Id) (r:Row):Rows:=fun i=>if i=id then some r else g i
def cj (g:Rows) (id:Id):Rows:=fun i=>if i=id then none else g i
def fZ:List Nat->Nat->Rows->Rows
 |[],_,g=>g
 |h::t,n,g=>fun id=>if (h::t).contains id.site=true/\id.bm=n then none else g id
def ro (g:Rows):Rows:=fun id=>(g id).map fun r=>{r with w:=false}
def part (agg:Bool) (n:Nat) (cs:List AV):Option AV:=
 if agg then(if n<=cs.length then some (.agg (cs.take n))else none)else cs.head?
def rowAt (g:Rows) (id:Id) (i:Nat):Option (List AV):=(g id).bind (·.rows[i]?)
def ld (g:Rows) (agg:Bool) (n:Nat):AV->Option AV
 | .ptr id i off=>(rowAt g id i).bind fun cs=>part agg n (cs.drop off)
 | .dm cs=>part agg n cs
 |_=>none
def dy:BinOp->IntKind->Int->Int->Option AV
 | .add,k,a,b=>some (.int k (k.wrap (a+b)))
 | .sub,k,a,b=>some (.int k (k.wrap (a-b)))
 | .mul,k,a,b=>some (.int k (k.wrap (a*b)))
 | .quo,k,a,b=>if b=0 then none else some (.int k (k.wrap (a.tdiv b)))
 | .rem,k,a,b=>if b=0 then none else some (.int k (a.tmod b))
 | .lss,_,a,b=>some (.bool (decide (a<b)))
 | .leq,_,a,b=>some (.bool (decide (a<=b)))
 | .gtr,_,a,b=>some (.bool (decide (b<a)))
 | .geq,_,a,b=>some (.bool (decide (b<=a)))
 | .and,k,a,b=>some (.int k (k.wrap (BitVec.ofInt k.bits a&&& BitVec.ofInt k.bits b).toNat))
 | .or,k,a,b=>some (.int k (k.wrap (BitVec.ofInt k.bits a|||BitVec.ofInt k.bits b).toNat))
 | .xor,k,a,b=>some (.int k (k.wrap (BitVec.ofInt k.bits a ^^^ BitVec.ofInt k.bits b).toNat))
 |_,_,_,_=>none
def dW (op:BinOp):AV->AV->Option AV
 | .int k a,.int k' b=>if k=k' then dy op k a b else none
 |_,_=>none
def gU (left:Bool):AV->AV->Option AV
 | .int k a,.int _ b=>if b<0 then none else some (.int k (if left then k.wrap (a*2 ^ min b.toNat k.bits)else a.fdiv (2 ^ min b.toNat k.bits)))
 |_,_=>none
def eh:BinOp->ByteArray->ByteArray->Option AV
 | .add,a,b=>if a.size+b.size<=9223372036854775807 then some (.str (a++b))else none
 | .lss,a,b=>some (.bool (Op.bytesLess a.toList b.toList))
 | .leq,a,b=>some (.bool (Op.bytesLess a.toList b.toList||(a.toList==b.toList)))
 | .gtr,a,b=>some (.bool !(Op.bytesLess a.toList b.toList||(a.toList==b.toList)))
 | .geq,a,b=>some (.bool !(Op.bytesLess a.toList b.toList))
 |_,_,_=>none
def cX (op:BinOp):AV->AV->Option AV
 | .str a,.str b=>eh op a b
 |_,_=>none
def fY:TS->AV->AV->Option Bool
 | .tI,.int k a,.int k' b=>if k=k' then some (decide (a=b))else none
 | .tB,.bool a,.bool b=>some (a==b)
 | .tS,.str a,.str b=>some (decide (a=b))
 |_,_,_=>none
def eU:List TS->List AV->List AV->Option Bool
 |[],[],[]=>some true
 |t::ts,a::r,b::s=>match fY t a b,eU ts r s with
  |some x,some y=>some (x&&y)
  |_,_=>none
 |_,_,_=>none
def dn (neg b:Bool):Bool:=if neg then !b else b
def cV:AV->Option Bool
 | .bV=>some true
 | .own _ _ _=>some false
 | .sl (_::_)=>some false
 |_=>none
def cU:AV->Option Bool
 | .jb=>some true
 | .fn _ _=>some false
 |_=>none
def Kp:AV->Option Bool
 | .gP=>some true
 | .ptr .. | .dm _=>some false
 |_=>none
def ea (L0:Bool) (x:AV):Option Bool:=if L0 then cU x else cV x
def dH (len:Nat):Option AV->Option Nat
 |none=>some len
 |some (.int _ n)=>if 0<=n/\n<=len then some n.toNat else none
 |_=>none
def dI (h:Nat):Option AV->Option Nat
 |none=>some 0
 |some (.int _ n)=>if 0<=n/\n<=h then some n.toNat else none
 |_=>none
def bJ (g:Rows) (sz:Nat) (x:AV) (lo hi:Option AV):Option AV:=
 match x with
 | .bV=>(dH 0 hi).bind fun h=>(dI h lo).map fun _=>.bV
 | .sl rows=>(dH rows.length hi).bind fun h=>(dI h lo).bind fun l=>if ∀cs∈rows,cs.length=sz then some (.sl ((rows.drop l).take (h-l)))else none
 | .own id off len=>(g id).bind fun r=>(dH len hi).bind fun h=>(dI h lo).bind fun l=>if r.sz=sz then some (.own id (off+l) (h-l))else none
 |_=>none
def aW (x:AV) (lo hi:Option AV):Option AV:=
 match x with
 | .str s=>(dH s.size hi).bind fun h=>(dI h lo).map fun l=>.str (s.extract l h)
 |_=>none
def ER (off:Nat):AV->Option AV
 | .ptr id i o=>some (.ptr id i (o+off))
 | .dm cs=>some (.dm (cs.drop off))
 |_=>none
def bI (g:Rows) (sz:Nat):AV->AV->Option AV
 | .sl rows,.int _ n=>if 0<=n then(rows[n.toNat]?).bind fun cs=>if cs.length=sz then some (.dm cs)else none else none
 | .own id off len,.int _ n=>if 0<=n/\n<len then(g id).bind fun r=>if r.sz=sz then some (.ptr id (off+n.toNat) 0)else none else none
 |_,_=>none
def cK (len sz:Nat):AV->AV->Option AV
 | .ptr id r off,.int _ n=>if 0<=n/\n<len then some (.ptr id r (off+n.toNat*sz))else none
 | .dm cs,.int _ n=>if 0<=n/\n<len then some (.dm (cs.drop (n.toNat*sz)))else none
 |_,_=>none
def cN:AV->AV->Option AV
 | .str s,.int _ n=>if 0<=n then(s[n.toNat]?).map fun b=>.int .u8 b.toNat else none
 |_,_=>none
def cL (agg:Bool) (len n:Nat):AV->AV->Option AV
 | .agg cs,.int _ i=>if 0<=i/\i<len then part agg n (cs.drop (i.toNat*n))else none
 |_,_=>none
def dY:AV->Option Nat
 | .bV=>some 0
 | .sl rows=>some rows.length
 | .own _ _ n=>some n
 |_=>none
def eb:AV->Option AV
 | .bool b=>some (.bool !b)
 |_=>none
def dZ:AV->Option AV
 | .int k n=>some (.int k (k.wrap (0-n)))
 |_=>none
def cJ (k:IntKind):AV->Option AV
 | .int _ n=>some (.int k (k.wrap n))
 |_=>none
def bL:AV->Option AV
 | .str s=>some (.str s)
 |_=>none
def cW:AV->AV->AV->Option AV
 | .bool c,a,b=>some (if c then a else b)
 |_,_,_=>none
def dX:AV->Option AV
 | .ptr id i o=>some (.ptr id i o)
 | .dm cs=>some (.dm cs)
 |_=>none
def bH (agg:Bool) (off n:Nat):AV->Option AV
 | .agg cs=>if off+n<=cs.length then part agg n (cs.drop off)else none
 |_=>none
def aL (i:Nat):AV->Option AV
 | .iC vs=>vs[i]?
 |_=>none
def cQ:AV->Option AV
 | .str s=>some (.int .i64 s.size)
 |_=>none
def rowOf (sz:Nat) (v:AV):Option (List AV):=if v.cells.length=sz/\v.cells.all AV.cell then some v.cells else none
def cH (v:AV):Option (List AV):=if v.cells.all AV.cell then some v.cells else none
def rowsOf (sz:Nat):List AV->Option (List (List AV))
 |[]=>some []
 |v::r=>(rowOf sz v).bind fun c=>(rowsOf sz r).map fun cs=>c::cs
def cC:List AV->List (Nat×Nat×AV)->Option (List AV)
 |cs,[]=>some cs
 |cs,(off,n,v)::r=>if v.cells.length=n/\off+n<=cs.length/\v.cells.all AV.cell then cC (cs.take off++v.cells++cs.drop (off+n)) r else none
def dz:Nat:=16777216
def gT (zero:List K):AV->AV->Option (Nat×Row)
 | .int _ l,.int _ c=>if 0<=l/\l<=c/\c<=dz then some (l.toNat,⟨true,zero.length,List.replicate l.toNat (zero.map K.av)⟩)else none
 |_,_=>none
def r8:Nat:=1000000000
def MK.ks (m:MK):Nat:=m.ts.length
def MK.lT (m:MK):Nat:=r8+m.ks
def AV.isAgg:AV->Bool
 | .agg _=>true
 |_=>false
def gi (m:MK) (key:List AV):List (List AV)->Nat->Option (Option Nat)
 |[],_=>some none
 |r::l,i=>match eU m.ts key (r.take m.ks)with
  |some true=>some (some i)
  |some false=>gi m key l (i+1)
  |none=>none
def dM (g:Rows) (m:MK):AV->Option (Id×Row)
 | .map id m'=>if m'=m then(g id).map fun r=>(id,r)else none
 |_=>none
def fV (m:MK) (k:AV) (rows:List (List AV)):Option (Option Nat):=if k.isAgg=m.ka/\k.cells.length=m.ks/\k.cells.all AV.cell then gi m k.cells rows 0 else none
def dU (m:MK) (z:K) (rows:List (List AV)):Option Nat->Option AV
 |some i=>(rows[i]?).bind fun cs=>cs[m.ks]?
 |none=>some z.av
def bw (q:MQ) (vs:List AV) (g:Rows) (id:Id):Option (AV×Option Row):=
 match q,vs with
 | .new m,[]=>some (.map id m,some ⟨true,m.lT,[]⟩)
 | .look m ok z,[x,k]=>(dM g m x).bind fun p=>(fV m k p.2.rows).bind fun fi=>(dU m z p.2.rows fi).map fun v=>(if ok then .iC [v,.bool fi.isSome]else v,none)
 | .len m,[x]=>(dM g m x).map fun p=>(.int .i64 p.2.rows.length,none)
 |_,_=>none
def qx:Nat:=2000000000
def cR:AV->Option Nat
 | .int _ n=>if 0<=n/\n<=1048576 then some n.toNat else none
 |_=>none
def cP (g:Rows):AV->Option AV
 | .rK id=>(g id).map fun r=>.int .i64 r.rows.length
 |_=>none
def ee (g:Rows):AV->AV->Option Rows
 | .rK id,v=>(g id).bind fun r=>if r.w/\qx+r.rows.length<r.sz/\v.cell then some (bF g id {r with rows:=r.rows++[[v]]})else none
 |_,_=>none
def ec (g:Rows):AV->Option (AV×Rows)
 | .rK id=>(g id).bind fun r=>match r.rows with
  |[v]::rest=>if r.w then some (v,bF g id {r with rows:=rest})else none
  |_=>none
 |_=>none
def dE (rows:List (List AV)) (e:List AV):Option Nat->List (List AV)
 |some i=>rows.set i e
 |none=>rows++[e]
def dJ (rows:List (List AV)):Option Nat->List (List AV)
 |some i=>rows.eraseIdx i
 |none=>rows
def bE (q:MW) (vs:List AV) (g:Rows):Option Rows:=
 match q,vs with
 | .set m,[x,k,v]=>(dM g m x).bind fun p=>(fV m k p.2.rows).bind fun fi=>if p.2.w/\v.cell/\v.isAgg=false then some (bF g p.1 {p.2 with rows:=dE p.2.rows (k.cells++[v]) fi})else none
 | .del m,[x,k]=>(dM g m x).bind fun p=>(fV m k p.2.rows).bind fun fi=>if p.2.w then some (bF g p.1 {p.2 with rows:=dJ p.2.rows fi})else none
 |_,_=>none
def eK (o:gC) (ρ:O->AV) (g:Rows) (id:Id):Option (AV×Option Row):=
 match o with
 | .dd x=>some (ρ x,none)
 | .pick c a b=>(cW (ρ c) (ρ a) (ρ b)).map (·,none)
 | .new zero=>some (.ptr id 0 0,some ⟨true,zero.length,[zero.map K.av]⟩)
 | .box x=>(cH (ρ x)).map fun cs=>(.ptr id 0 0,some ⟨true,cs.length,[cs]⟩)
 | .build zero parts=>(cC (zero.map K.av) (parts.map fun(o,n,x)=>(o,n,ρ x))).map fun cs=>(.agg cs,none)
 | .mN sz len parts=>(rowsOf sz (parts.map ρ)).map fun rs=>(.own id 0 len,some ⟨true,sz,rs⟩)
 | .load agg n a=>(ld g agg n (ρ a)).map (·,none)
 | .Au x=>(dX (ρ x)).map (·,none)
 | .bin op _ x y=>(dW op (ρ x) (ρ y)).map (·,none)
 | .sh left x y=>(gU left (ρ x) (ρ y)).map (·,none)
 | .K7 op x y=>(cX op (ρ x) (ρ y)).map (·,none)
 | .M7 neg t x y=>(fY t (ρ x) (ρ y)).map fun b=>(.bool (dn neg b),none)
 | .SE neg ts x y=>match ρ x,ρ y with
  | .agg xs,.agg ys=>(eU ts xs ys).map fun b=>(.bool (dn neg b),none)
  |_,_=>none
 | .QT neg L0 x=>(ea L0 (ρ x)).map fun b=>(.bool (dn neg b),none)
 | .SF neg x=>(Kp (ρ x)).map fun b=>(.bool (dn neg b),none)
 | .not x=>(eb (ρ x)).map (·,none)
 | .neg x=>(dZ (ρ x)).map (·,none)
 | .conv k x=>(cJ k (ρ x)).map (·,none)
 | .E7 x=>(bL (ρ x)).map (·,none)
 | .slice sz x lo hi=>(bJ g sz (ρ x) (lo.map ρ) (hi.map ρ)).map (·,none)
 | .Ah x lo hi=>(aW (ρ x) (lo.map ρ) (hi.map ρ)).map (·,none)
 | .fH off x=>(ER off (ρ x)).map (·,none)
 | .field agg off n x=>(bH agg off n (ρ x)).map (·,none)
 | .dG sz x i=>(bI g sz (ρ x) (ρ i)).map (·,none)
 | .LS len sz x i=>(cK len sz (ρ x) (ρ i)).map (·,none)
 | .LW x i=>(cN (ρ x) (ρ i)).map (·,none)
 | .eJ agg len n x i=>(cL agg len n (ρ x) (ρ i)).map (·,none)
 | .extract i x=>(aL i (ρ x)).map (·,none)
 | .len x=>(dY (ρ x)).map fun(n:Nat)=>(AV.int .i64 (n:Int),none)
 | .L6 x=>(cQ (ρ x)).map (·,none)
 | .Me f cZ=>some (.fn f (cZ.map ρ),none)
 | .Mf f first=>some (.tT f (first.map ρ),none)
 | .jU zero l c=>(gT zero (ρ l) (ρ c)).map fun(n,r)=>(.own id 0 n,some r)
 | .mq q xs=>bw q (xs.map ρ) g id
 | .JB x=>(cR (ρ x)).map fun n=>(.rK id,some ⟨true,qx+n,[]⟩)
 | .Jn x=>(cP g (ρ x)).map (·,none)
 |_=>none
def bj (g:Rows):AV->Option (List (List AV))
 | .bV=>some []
 | .sl rows=>some rows
 | .own id off len=>(g id).bind fun r=>if off+len<=r.rows.length then some ((r.rows.drop off).take len)else none
 |_=>none
def cF (cs:List AV) (off:Nat) (xs:List AV):List AV:=cs.take off++xs++cs.drop (off+xs.length)
def bK (g:Rows) (n:Nat) (v:AV):AV->Option Rows
 | .ptr id i off=>(g id).bind fun r=>(r.rows[i]?).bind fun cs=>
  if r.w/\v.cells.length=n/\v.cells.all AV.cell/\off+n<=cs.length then some (bF g id {r with rows:=r.rows.set i (cF cs off v.cells)})else none
 |_=>none
def aT (g:Rows) (id:Id) (sz:Nat) (x:AV) (ys:List (List AV)):Option (AV×Rows):=
 match x with
 | .bV=>match ys with
  |[]=>some (.bV,g)
  |y::r=>if (y::r).length<=dz/\(y::r).all (fun c=>c.length==sz&&c.all AV.cell)then some (.own id 0 (y::r).length,bF g id ⟨true,sz,y::r⟩)else none
 | .own i 0 len=>(g i).bind fun r=>
  if r.w/\r.sz=sz/\len=r.rows.length/\len+ys.length<=dz/\ys.all (fun c=>c.length==sz&&c.all AV.cell)then some (.own id 0 (len+ys.length),bF (cj g i) id ⟨true,sz,r.rows++ys⟩)else none
 |_=>none
def FR (g:Rows) (sz:Nat) (x:AV) (ys:List (List AV)):Option (AV×Rows):=
 match x with
 | .own i off len=>(g i).bind fun r=>
  if r.w/\r.sz=sz/\off+len<=r.rows.length/\ys.all (fun c=>c.length==sz&&c.all AV.cell)then
   some (.int .i64 (min ys.length len:Nat),bF g i {r with rows:=r.rows.take off++ys.take (min ys.length len)++r.rows.drop (off+min ys.length len)})else none
 |_=>none
def bG (g:Rows) (zero:List K) (x:AV):Option Rows:=
 match x with
 | .bV=>some g
 | .own i off len=>(g i).bind fun r=>
  if r.w/\r.sz=zero.length/\off+len<=r.rows.length then
   some (bF g i {r with rows:=r.rows.take off++List.replicate len (zero.map K.av)++r.rows.drop (off+len)})else none
 |_=>none
def ga (o:gC) (ρ:O->AV) (g:Rows) (id:Id):Option (AV×Rows):=
 match o with
 | .store n a x=>(bK g n (ρ x) (ρ a)).map fun g'=>(.undef,g')
 | .append sz x y=>(bj g (ρ y)).bind fun ys=>aT g id sz (ρ x) ys
 | .copy sz x y=>(bj g (ρ y)).bind fun ys=>FR g sz (ρ x) ys
 | .clear zero x=>(bG g zero (ρ x)).map fun g'=>(.undef,g')
 | .mw q xs=>(bE q (xs.map ρ) g).map fun g'=>(.undef,g')
 |_=>none
def vn:AV->List AV->Option (Nat×List AV)
 | .fn f cZ,l=>some (f,l++cZ)
 | .tT f first,l=>some (f,first++l)
 |_,_=>none
abbrev fG:=Nat->List AV->ar->(AV->ar->Prop)->Prop
mutual
def fz (g:Rows):Nat->AV->Option AV
 |0,_=>none
 |n+1,a=>match a with
  | .own id off len=>match g id with
   |some r=>if r.w then(if off+len<=r.rows.length then(eo g n ((r.rows.drop off).take len)).map AV.sl else none)else none
   |none=>none
  | .ptr id i off=>match g id with
   |some r=>if r.w then(match r.rows[i]? with
    |some cs=>(cG g n (cs.drop off)).map AV.dm
    |none=>none)else none
   |none=>none
  | .agg cs=>(cG g n cs).map AV.agg
  | .iC vs=>(cG g n vs).map AV.iC
  | .fn f cZ=>if cZ.all AV.cell then(cG g n cZ).map (AV.fn f)else none
  | .map _ _| .tT _ _| .rK _=>none
  |v=>some v
 termination_by n _=>(n,0)
def cG (g:Rows):Nat->List AV->Option (List AV)
 |n,[]=>some []
 |n,a::r=>match fz g n a with
  |some b=>(cG g n r).map (b::·)
  |none=>none
 termination_by n l=>(n,l.length+1)
def eo (g:Rows):Nat->List (List AV)->Option (List (List AV))
 |n,[]=>some []
 |n,c::r=>match cG g n c with
  |some b=>(eo g n r).map (b::·)
  |none=>none
 termination_by n l=>(n,(l.map (fun c=>c.length+2)).sum+1)
 decreasing_by all_goals simp_wf;try omega
end
mutual
def gy (g:Rows):Nat->AV->Option AV
 |0,_=>none
 |n+1,a=>match a with
  | .own id off len=>match g id with
   |some r=>if r.w then(if off+len<=r.rows.length then(ib g n ((r.rows.drop off).take len)).map AV.sl else none)else none
   |none=>none
  | .ptr id i off=>match g id with
   |some r=>if r.w then(match r.rows[i]? with
    |some cs=>(ew g n (cs.drop off)).map AV.dm
    |none=>none)else none
   |none=>none
  | .agg cs=>(ew g n cs).map AV.agg
  | .iC vs=>(ew g n vs).map AV.iC
  | .int k m=>some (.int k m)
  | .bool b=>some (.bool b)
  | .str s=>some (.str s)
  | .bV=>some .bV
  | .gP=>some .gP
  | .jb=>some .jb
  | .jk=>some .jk
  |_=>none
 termination_by n _=>(n,0)
def ew (g:Rows):Nat->List AV->Option (List AV)
 |n,[]=>some []
 |n,a::r=>match gy g n a with
  |some b=>(ew g n r).map (b::·)
  |none=>none
 termination_by n l=>(n,l.length+1)
def ib (g:Rows):Nat->List (List AV)->Option (List (List AV))
 |n,[]=>some []
 |n,c::r=>match ew g n c with
  |some b=>(ib g n r).map (b::·)
  |none=>none
 termination_by n l=>(n,(l.map (fun c=>c.length+2)).sum+1)
 decreasing_by all_goals simp_wf;try omega
end
def dF (g:Rows):Rows:=fun id=>(g id).map fun r=>{r with w:=true}
def PC (X:fG) (f:Nat) (args:List AV) (σ:ar) (K:AV->Prop):Prop:=
 X f args ⟨ro σ.get,σ.next⟩ fun r σ'=>∃r',fz σ'.get 6 r=some r'/\K r'
def PCv (X:fG) (f:Nat) (args:List AV) (σ:ar) (K:AV->Prop):Prop:=
 ∃er,cG (dF σ.get) 6 args=some er/\X f er ⟨fun _=>none,σ.next⟩ fun r σ'=>∃r',gy σ'.get 6 r=some r'/\K r'
def gq (X:fG) (f:Nat) (args:List AV) (σ:ar) (K:AV->Prop):Prop:=PC X f args σ K∨PCv X f args σ K
def aH (g:Option (Nat×Bool)) (env:Env):Bool:=
 match g with
 |none=>true
 |some (t,b)=>match env t with
  | .bool c=>c==b
  |_=>false
def AV.plain:AV->Bool
 | .int .. | .bool _| .str _| .bV| .gP| .jb| .jk=>true
 |_=>false
def CM (X:fG) (f:Nat) (args:List AV) (σ:ar) (sz:Nat) (rows:List (List AV)):Prop:=
 (∀c∈rows,∀a∈c,a.plain=true)/\∃er,cG (dF σ.get) 6 args=some er/\X f er ⟨fun _=>none,σ.next⟩ fun r σ'=>∃id,r=.own id 0 rows.length/\σ'.get id=some ⟨true,sz,rows⟩
def cE (X:fG) (draw:Bool) (hid:List Nat) (site:Nat) (f:Nat) (args:List AV) (σ:ar) (next:AV->ar->Prop):Prop:=
 (∃r,gq X f args ⟨fZ hid σ.next σ.get,σ.next+1⟩ (fun r'=>r'=r)/\next r σ)∨
 (draw=false/\X f args ⟨σ.get,σ.next+1⟩ next)∨
 (hid.contains site=true/\∃sz rows,CM X f args ⟨fZ hid σ.next σ.get,σ.next+1⟩ sz rows/\next (.own ⟨site,σ.next⟩ 0 rows.length) ⟨bF σ.get ⟨site,σ.next⟩ ⟨true,sz,rows⟩,σ.next⟩)
def fF (X:fG) (draw:Bool) (o:bq) (env:Env) (σ:ar) (next:AV->ar->Prop):Prop:=
 match o.op with
 | .call f args=>cE X draw o.hid o.site f (args.map (da env)) σ next
 | .tC x args=>match da env x with
  | .fn f cZ=>cE X draw o.hid o.site f (args.map (da env)++cZ) σ next
  | .tT f first=>cE X draw o.hid o.site f (first++args.map (da env)) σ next
  |_=>False
 | .store .. | .append .. | .copy .. | .clear .. | .mw .. =>match ga o.op (da env) σ.get ⟨o.site,σ.next⟩with
  |some (v,g)=>next v ⟨g,σ.next⟩
  |none=>False
 |_=>match eK o.op (da env) (fZ o.hid σ.next σ.get) ⟨o.site,σ.next⟩with
  |some (v,some r)=>next v ⟨bF σ.get ⟨o.site,σ.next⟩ r,σ.next⟩
  |some (v,none)=>next v σ
  |none=>False
def wpOps (X:fG) (draw:Bool):List bq->(Env->ar->Prop)->Env->ar->Prop
 |[],K,env,σ=>K env ⟨σ.get,σ.next+1⟩
 |o::r,K,env,σ=>
  if aH o.guard env then fF X draw o env σ fun v σ'=>wpOps X draw r K (upd env o.dst v) σ'
  else wpOps X draw r K (upd env o.dst .undef) σ
def cw:List bq->(Env->ar->Prop)->Env->ar->Prop
 |[],K,env,σ=>K env ⟨σ.get,σ.next+1⟩
 |o::r,K,env,σ=>o.guard=none/\match o.op with
  | .snd x y=>match ee σ.get (da env x) (da env y)with
   |some g=>cw r K (upd env o.dst .undef) ⟨g,σ.next⟩
   |none=>False
  | .Pq x=>match ec σ.get (da env x)with
   |some (v,g)=>cw r K (upd env o.dst v) ⟨g,σ.next⟩
   |none=>False
  |op=>match eK op (da env) σ.get ⟨o.site,σ.next⟩with
   |some (v,none)=>cw r K (upd env o.dst v) σ
   |_=>False
def du (next:Env->ar->Prop) (Q:Ex->Env->ar->Prop):Ex->Env->ar->Prop
 | .normal=>next
 |e=>Q e
def bf (id:Nat) (Q:Ex->Env->ar->Prop):Ex->Env->ar->Prop
 | .exit kR=>if kR=id then Q .normal else Q (.exit kR)
 |e=>Q e
def FE (W:(Ex->Env->ar->Prop)->Env->ar->Prop) (Q:Ex->Env->ar->Prop):Nat->Env->ar->Prop
 |0=>fun _ _=>False
 |n+1=>W (du (FE W Q n) Q)
def L7 (t s:Nat) (y:O) (env:Env) (n:Nat):Prop:=(∃len,env t=.own ⟨s,n⟩ 0 len)/\∀id o l,da env y=.own id o l->id.bm≠n
def ek (X:fG):VC->(Ex->Env->ar->Prop)->Env->ar->Prop
 | .skip,Q=>Q .normal
 | .eB draw ops,Q=>wpOps X draw ops (Q .normal)
 | .seq a b,Q=>ek X a (du (ek X b Q) Q)
 | .cond c x y,Q=>fun env σ=>match da env c with
  | .bool b=>if b then ek X x Q env σ else ek X y Q env σ
  |_=>False
 | .block id c,Q=>ek X c (bf id Q)
 | .loop c,Q=>fun env σ=>∃n,FE (ek X c) Q n env σ
 | .exit id,Q=>Q (.exit id)
 | .ret,Q=>Q .ret
 | .one o c,Q=>fun env σ=>if aH o.guard env then fF X false o env σ fun v σ'=>ek X c Q (upd env o.dst v) σ' else ek X c Q (upd env o.dst .undef) σ
 | .both a b,Q=>fun env σ=>ek X a Q env σ/\ek X b Q env σ
 | .loc t s y c,Q=>fun env σ=>L7 t s y env σ.next/\ek X c Q env σ
 | .N5 ops,Q=>cw ops (Q .normal)
def iu (env:Env) (g:Rows):oj->Option AV
 | .tmp t=>some (env t)
 | .cell agg n t=>ld g agg n (env t)
def fq (env:Env) (g:Rows):List oj->Option (List AV)
 |[]=>some []
 |r::l=>(iu env g r).bind fun v=>(fq env g l).map (v::·)
def fe:List AV->AV
 |[v]=>v
 |l=>.iC l
def ck (args:List AV):Env:=fun t=>args.getD t .undef
def k8 (res:List oj) (K:AV->ar->Prop):Ex->Env->ar->Prop
 | .exit _,_,_=>False
 |_,env,σ=>∃vs,fq env σ.get res=some vs/\K (fe vs) σ
inductive jC (P:Program) (w:World) (D:Nat->Prop):AV->Value->Prop
 |int (k n):jC P w D (.int k n) (.int k n)
 |bool (b):jC P w D (.bool b) (.bool b)
 |str (s):jC P w D (.str s) (.string s)
 |bV:jC P w D .bV (.slice none 0 0)
 |gP:jC P w D .gP (.pointer none)
 |jb:jC P w D .jb .nilFunc
 |AG (a c):c<=maxLen->jC P w D (.sl []) (.slice a 0 c)
 |sl (rows b o n c sz) (vs:Nat->Nat->Value):rows.length=n->n<=c->c<=maxLen->D b->(∀cs∈rows,cs.length=sz)->(∀cs∈rows,∀a∈cs,a.cell=true)->
   (∀i j,i<n->j<sz->w.cell? ⟨b,o+(i*sz+j),none⟩=some (vs i j))->
   (∀i j cs a,rows[i]? =some cs->cs[j]? =some a->jC P w D a (vs i j))->jC P w D (.sl rows) (.slice (some ⟨b,o,none⟩) n c)
 |dm (cs b o) (vs:Nat->Value):D b->(∀a∈cs,a.cell=true)->(∀j,j<cs.length->w.cell? ⟨b,o+j,none⟩=some (vs j))->
   (∀j a,cs[j]? =some a->jC P w D a (vs j))->jC P w D (.dm cs) (.pointer (some ⟨b,o,none⟩))
 |agg (cs) (vs:Array Value) (f:Nat->Value):vs.size=cs.length->(∀a∈cs,a.cell=true)->(∀j,j<cs.length->vs[j]? =some (f j))->(∀j a,cs[j]? =some a->jC P w D a (f j))->jC P w D (.agg cs) (.agg vs)
 |fn (f cZ) (vs:Array Value) (g:Nat->Value):fQ P f=true->vs.size=cZ.length->(∀j,j<cZ.length->vs[j]? =some (g j))->(∀j a,cZ[j]? =some a->jC P w D a (g j))->jC P w D (.fn f cZ) (.func (.func f) #[] vs)
 |jk:jC P w D .jk (.map none)
inductive BK where
 |map (m:MK)
 |chan (cap:Nat)
structure sK where
 b:Nat
 sz:Nat
 C:Nat
 k:Option BK
abbrev Names:=Id->Option sK
inductive dc (P:Program) (w:World) (D:Nat->Prop) (ι:Names):AV->Value->Prop
 |eP (a v):jC P w D a v->dc P w D ι a v
 |own (id off len o cap B):ι id=some B->B.k=none->len<=cap->(cap=0∨o=off*B.sz)->(off+cap)*B.sz<=B.C->cap<=maxLen->dc P w D ι (.own id off len) (.slice (some ⟨B.b,o,none⟩) len cap)
 |ptr (id i off B):ι id=some B->B.k=none->dc P w D ι (.ptr id i off) (.pointer (some ⟨B.b,i*B.sz+off,none⟩))
 |agg (cs) (vs:Array Value) (f:Nat->Value):vs.size=cs.length->(∀a∈cs,a.cell=true)->(∀j,j<cs.length->vs[j]? =some (f j))->(∀j a,cs[j]? =some a->dc P w D ι a (f j))->dc P w D ι (.agg cs) (.agg vs)
 |iC (cs) (vs:Array Value) (f:Nat->Value):vs.size=cs.length->(∀j,j<cs.length->vs[j]? =some (f j))->(∀j a,cs[j]? =some a->dc P w D ι a (f j))->dc P w D ι (.iC cs) (.tuple vs)
 |fn (f cZ) (vs:Array Value) (g:Nat->Value):fQ P f=true->vs.size=cZ.length->(∀j,j<cZ.length->vs[j]? =some (g j))->(∀j a,cZ[j]? =some a->dc P w D ι a (g j))->dc P w D ι (.fn f cZ) (.func (.func f) #[] vs)
 |rK (id c B):ι id=some B->B.k=some (.chan c)->dc P w D ι (.rK id) (.chan (some B.b))
 |map (id m B):ι id=some B->B.k=some (.map m)->dc P w D ι (.map id m) (.map (some B.b))
 |tT (f cZ) (vs:Array Value) (g:Nat->Value):fQ P f=true->vs.size=cZ.length->(∀j,j<cZ.length->vs[j]? =some (g j))->(∀j a,cZ[j]? =some a->dc P w D ι a (g j))->dc P w D ι (.tT f cZ) (.func (.func f) vs #[])
variable {P:Program} {w w':World} {D D':Nat->Prop} {ι ι':Names}
theorem jC.frame (hD:∀b,D b->w'.heap[b]? =w.heap[b]?) (hs:∀b,D b->D' b) {a:AV} {v:Value} (h:jC P w D a v):jC P w' D' a v:=by
 induction h with
 |int k n=>exact .int k n
 |bool b=>exact .bool b
 |str s=>exact .str s
 |bV=>exact .bV
 |gP=>exact .gP
 |jb=>exact .jb
 |jk=>exact .jk
 |AG a c h=>exact .AG a c h
 |sl rows b o n c sz vs h1 h2 h3 h4 h5 h5' h6 _ ih=>exact .sl rows b o n c sz vs h1 h2 h3 (hs b h4) h5 h5' (fun i j hi hj=>(World.cell?_of_block (hD b h4)).trans (h6 i j hi hj)) ih
 |dm cs b o vs h1 Oh h2 _ ih=>exact .dm cs b o vs (hs b h1) Oh (fun j hj=>(World.cell?_of_block (hD b h1)).trans (h2 j hj)) ih
 |agg cs vs f h1 h2 h3 _ ih=>exact .agg cs vs f h1 h2 h3 ih
 |fn f cZ vs g h1 h2 h3 _ ih=>exact .fn f cZ vs g h1 h2 h3 ih
theorem dc.frame (hD:∀b,D b->w'.heap[b]? =w.heap[b]?) (hs:∀b,D b->D' b) (hι:∀id B,ι id=some B->ι' id=some B) {a:AV} {v:Value} (h:dc P w D ι a v):dc P w' D' ι' a v:=by
 induction h with
 |eP a v h=>exact .eP a v (h.frame hD hs)
 |map id m B h1 h2=>exact .map id m B (hι _ _ h1) h2
 |rK id c B h1 h2=>exact .rK id c B (hι _ _ h1) h2
 |own id off len o cap B h1 h2 h3 h4 h5 h6=>exact .own id off len o cap B (hι _ _ h1) h2 h3 h4 h5 h6
 |ptr id i off B h1 h2=>exact .ptr id i off B (hι _ _ h1) h2
 |agg cs vs f h1 h2 h3 _ ih=>exact .agg cs vs f h1 h2 h3 ih
 |iC cs vs f h1 h2 _ ih=>exact .iC cs vs f h1 h2 ih
 |fn f cZ vs g h1 h2 h3 _ ih=>exact .fn f cZ vs g h1 h2 h3 ih
 |tT f cZ vs g h1 h2 h3 _ ih=>exact .tT f cZ vs g h1 h2 h3 ih
theorem dc.undef:dc P w D ι .undef Go.undef:=.iC [] #[] (fun _=>Go.undef) rfl (fun j hj=>by simp at hj) (fun j a h=>by simp at h)
theorem wP (c:K):dc P w D ι c.av c.val:=by
 cases c with
 |int k n=>exact .eP _ _ (.int k n)
 |bool b=>exact .eP _ _ (.bool b)
 |str l=>exact .eP _ _ (.str _)
 |bV=>exact .eP _ _ .bV
 |gP=>exact .eP _ _ .gP
 |jb=>exact .eP _ _ .jb
 |jk=>exact .eP _ _ .jk
theorem K.mL (c:K):c.av.cell=true:=by cases c<;>rfl
theorem zG {v:Value} {c:K} (h:GM v=some c):v=c.val:=by
 unfold GM at h
 split at h<;>simp at h<;>subst h<;>rfl
theorem dc.AZ {a:AV} {v:Value} (h:dc P w D ι a v) (hc:a.cell=true):v.cells= #[v]/\(∀vs,v≠.agg vs)/\(∀vs,v≠.tuple vs):=by
 cases h with
 |eP a v h=>cases h<;>simp_all [AV.cell,Value.cells]
 |own=>simp[Value.cells]
 |map=>simp[Value.cells]
 |rK=>simp[Value.cells]
 |ptr=>simp[Value.cells]
 |agg=>simp[AV.cell]at hc
 |iC=>simp[AV.cell]at hc
 |fn=>simp[Value.cells]
 |tT=>simp[Value.cells]
theorem dc.cells {a:AV} {v:Value} (h:dc P w D ι a v) (ha:a.cells.all AV.cell=true):v.cells.size=a.cells.length/\∃f:Nat->Value,(∀j,j<a.cells.length->v.cells[j]? =some (f j))/\∀j x,a.cells[j]? =some x->dc P w D ι x (f j):=by
 have one:∀(a:AV) (v:Value),a.cell=true->a.cells=[a]->dc P w D ι a v->v.cells.size=a.cells.length/\∃f:Nat->Value,(∀j,j<a.cells.length->v.cells[j]? =some (f j))/\∀j x,a.cells[j]? =some x->dc P w D ι x (f j):=by
  intro a v hc dr h
  obtain⟨h1,_,_⟩:=h.AZ hc
  rw[h1,dr]
  refine⟨rfl,fun _=>v,fun j hj=>?_,fun j x hx=>?_⟩
  ·have:j=0:=by simp at hj;omega
   subst this;rfl
  ·cases j with
   |zero=>simp at hx;subst hx;exact h
   |succ j=>simp at hx
 cases h with
 |eP a v h=>
  cases h with
  |agg cs vs f h1 h2 h3 h4=>exact⟨h1,f,h3,fun j x hx=>.eP _ _ (h4 j x hx)⟩
  |_=>exact one _ _ rfl rfl (.eP _ _ (by constructor<;>assumption))
 |own id off len o cap B h1 h2 h3 h4 h5 h6=>exact one _ _ rfl rfl (.own id off len o cap B h1 h2 h3 h4 h5 h6)
 |ptr id i off B h1 h2=>exact one _ _ rfl rfl (.ptr id i off B h1 h2)
 |map id m B h1 h2=>exact one _ _ rfl rfl (.map id m B h1 h2)
 |rK id c B h1 h2=>exact one _ _ rfl rfl (.rK id c B h1 h2)
 |agg cs vs f h1 h2 h3 h4=>exact⟨h1,f,h3,h4⟩
 |iC cs vs f h1 h2 h3=>simp[AV.cells,AV.cell]at ha
 |fn f cZ vs g h1 h2 h3 h4=>exact one _ _ rfl rfl (.fn f cZ vs g h1 h2 h3 h4)
 |tT f cZ vs g h1 h2 h3 h4=>exact one _ _ rfl rfl (.tT f cZ vs g h1 h2 h3 h4)
structure kM (P:Program) (w:World) (D:Nat->Prop) (ι:Names) (B:sK) (r:Row):Prop where
 sz:B.sz=r.sz
 xV:∃cells T,w.heap[B.b]? =some (.cells cells T (0,0))/\cells.size=B.C
 fits:r.rows.length*r.sz<=B.C
 len:∀cs∈r.rows,cs.length=r.sz
 flat:∀cs∈r.rows,∀a∈cs,a.cell=true
 at_:∀i j cs a,r.rows[i]? =some cs->cs[j]? =some a->∃v,w.cell? ⟨B.b,i*r.sz+j,none⟩=some v/\dc P w D ι a v
def F3 (es:Array MapEntry) (clock:Nat):Prop:=(∀x∈es.toList,x.born<clock)/\(es.toList.map (·.born)).Nodup
def M1 (P:Program) (w:World) (D:Nat->Prop) (ι:Names) (B:sK) (m:MK) (r:Row):Prop:=
 ∃(es:Array MapEntry) (clock:Nat),w.heap[B.b]? =some (.map es clock)/\es.size=r.rows.length/\((∀cs∈r.rows,cs.length=m.ks+1)/\F3 es clock)/\
  ∀(i:Nat) (cs:List AV),r.rows[i]? =some cs->∃(e:MapEntry) (kv vv:AV),es[i]? =some e/\part m.ka m.ks cs=some kv/\cs[m.ks]? =some vv/\dc P w D ι kv e.key/\dc P w D ι vv e.val
def HS (P:Program) (w:World) (D:Nat->Prop) (ι:Names) (B:sK) (c:Nat) (r:Row):Prop:=
 ∃(buf:Array Value) (s q:Nat),w.heap[B.b]? =some (.chan c buf false s q false)/\buf.size=r.rows.length/\
  ∀(i:Nat) (cs:List AV),r.rows[i]? =some cs->∃(a:AV) (u:Value),cs=[a]/\buf[i]? =some u/\dc P w D ι a u
structure ia (P:Program) (w:World) (D:Nat->Prop) (ι:Names) (B:sK) (r:Row):Prop where
 sz:B.sz=r.sz
 flat:∀cs∈r.rows,∀a∈cs,a.cell=true
 row:B.k=none->kM P w D ι B r
 map:∀m,B.k=some (.map m)->r.sz=m.lT/\M1 P w D ι B m r
 chan:∀c,B.k=some (.chan c)->r.sz=qx+c/\HS P w D ι B c r
theorem kM.obj {B:sK} {r:Row} (R:kM P w D ι B r) (h:B.k=none):ia P w D ι B r:=⟨R.sz,R.flat,fun _=>R,fun m hm=>(by rw[h]at hm;cases hm),fun m hm=>by rw[h]at hm;cases hm⟩
theorem ia.flag {B:sK} {r:Row} (R:ia P w D ι B r) (b:Bool):ia P w D ι B {r with w:=b}:=⟨R.sz,R.flat,fun h=>⟨R.sz,(R.row h).xV,(R.row h).fits,(R.row h).len,R.flat,(R.row h).at_⟩,R.map,R.chan⟩
theorem ia.cells {B:sK} {r:Row} (R:ia P w D ι B r) (h:r.sz<r8):B.k=none:=by
 cases hk:B.k with
 |none=>rfl
 |some m=>
  cases m with
  |map m=>
   have h1:=(R.map m hk).1
   unfold MK.lT at h1
   omega
  |chan c=>
   have h1:=(R.chan c hk).1
   unfold qx at h1
   unfold r8 at h
   omega
theorem ia.Mh {B:sK} {r:Row} (R:ia P w D ι B r) {c:Array Value} {T:TypeId} {z:Nat×Nat} (h:w.heap[B.b]? =some (.cells c T z)):B.k=none:=by
 cases hk:B.k with
 |none=>rfl
 |some m=>
  cases m with
  |map m=>obtain⟨_,es,c,h3,_⟩:=R.map m hk;rw[h]at h3;cases h3
  |chan c=>obtain⟨_,buf,s,q,h3,_⟩:=R.chan c hk;rw[h]at h3;cases h3
theorem ia.lt {B:sK} {r:Row} (R:ia P w D ι B r):B.b<w.heap.size:=by
 cases h:B.k with
 |none=>
  obtain⟨c,T,h3,_⟩:=(R.row h).xV
  exact(Array.getElem?_eq_some_iff.1 h3).1
 |some m=>
  cases m with
  |map m=>obtain⟨_,es,c,h3,_⟩:=R.map m h;exact(Array.getElem?_eq_some_iff.1 h3).1
  |chan c=>obtain⟨_,buf,s,q,h3,_⟩:=R.chan c h;exact(Array.getElem?_eq_some_iff.1 h3).1
structure gz (P:Program) (hs:Nat) (D:Nat->Prop) (ι:Names) (g:Rows) (w:World):Prop where
 lo:hs<=w.heap.size
 dead:∀b,D b->b<w.heap.size
 row:∀id r,g id=some r->∃B,ι id=some B/\ia P w D ι B r/\(r.w=true->hs<=B.b)/\(r.w=true->¬D B.b)
 inj:∀id kR r r' B B',g id=some r->g kR=some r'->r.w=true->ι id=some B->ι kR=some B'->B.b=B'.b->id=kR
def Used (ι:Names) (n:Nat) (U:Nat->Prop):Prop:=∀id,ι id≠none->id.bm<n∨(id.bm=n/\U id.site)
structure Step (hs:Nat) (D:Nat->Prop) (ι:Names) (w:World) (D':Nat->Prop) (ι':Names) (w':World):Prop where
 below:Below hs w w'
 uu:∀b,D b->w'.heap[b]? =w.heap[b]?
 dead:∀b,D b->D' b
 names:∀id B,ι id=some B->ι' id=some B
 new:∀b,D' b->D b∨hs<=b
theorem Step.refl (hs:Nat) (D:Nat->Prop) (ι:Names) (w:World):Step hs D ι w D ι w:=⟨Below.refl _ _,fun _ _=>rfl,fun _ h=>h,fun _ _ h=>h,fun _ h=>.inl h⟩
theorem Step.trans {hs:Nat} {D D' D'':Nat->Prop} {ι ι' SC:Names} {w w' KR:World} (h:Step hs D ι w D' ι' w') (k:Step hs D' ι' w' D'' SC KR):Step hs D ι w D'' SC KR:=
 ⟨h.below.trans k.below,fun b hb=>(k.uu b (h.dead b hb)).trans (h.uu b hb),fun b hb=>k.dead b (h.dead b hb),fun id B hB=>k.names id B (h.names id B hB),fun b hb=>by
  rcases k.new b hb with hb|hb
  ·exact h.new b hb
  ·exact .inr hb⟩
theorem Step.rep {hs:Nat} {D D':Nat->Prop} {ι ι':Names} {w w':World} (h:Step hs D ι w D' ι' w') {a:AV} {v:Value} (hr:dc P w D ι a v):dc P w' D' ι' a v:=hr.frame h.uu h.dead h.names
theorem dp {k n} {v:Value} (h:dc P w D ι (.int k n) v):v=.int k n:=by
 cases h with
 |eP _ _ h=>cases h;rfl
theorem e7 {b} {v:Value} (h:dc P w D ι (.bool b) v):v=.bool b:=by
 cases h with
 |eP _ _ h=>cases h;rfl
theorem fD {s} {v:Value} (h:dc P w D ι (.str s) v):v=.string s:=by
 cases h with
 |eP _ _ h=>cases h;rfl
theorem iR {v:Value} (h:dc P w D ι .bV v):v=.slice none 0 0:=by
 cases h with
 |eP _ _ h=>cases h;rfl
theorem wQ {v:Value} (h:dc P w D ι .jb v):v=.nilFunc:=by
 cases h with
 |eP _ _ h=>cases h;rfl
theorem iz {cs} {v:Value} (h:dc P w D ι (.agg cs) v):∃(vs:Array Value) (f:Nat->Value),v=.agg vs/\vs.size=cs.length/\(∀a∈cs,a.cell=true)/\(∀j,j<cs.length->vs[j]? =some (f j))/\∀j a,cs[j]? =some a->dc P w D ι a (f j):=by
 cases h with
 |eP _ _ h=>
  cases h with
  |agg cs vs f h1 h2 h3 h4=>exact⟨vs,f,rfl,h1,h2,h3,fun j a h=>.eP _ _ (h4 j a h)⟩
 |agg cs vs f h1 h2 h3 h4=>exact⟨vs,f,rfl,h1,h2,h3,h4⟩
theorem uN {cs} {v:Value} (h:dc P w D ι (.iC cs) v):∃(vs:Array Value) (f:Nat->Value),v=.tuple vs/\vs.size=cs.length/\(∀j,j<cs.length->vs[j]? =some (f j))/\∀j a,cs[j]? =some a->dc P w D ι a (f j):=by
 cases h with
 |eP _ _ h=>cases h
 |iC cs vs f h1 h2 h3=>exact⟨vs,f,rfl,h1,h2,h3⟩
theorem wO {f cZ} {v:Value} (h:dc P w D ι (.fn f cZ) v):∃(vs:Array Value) (g:Nat->Value),v=.func (.func f) #[] vs/\fQ P f=true/\vs.size=cZ.length/\(∀j,j<cZ.length->vs[j]? =some (g j))/\∀j a,cZ[j]? =some a->dc P w D ι a (g j):=by
 cases h with
 |eP _ _ h=>
  cases h with
  |fn f cZ vs g h1 h2 h3 h4=>exact⟨vs,g,rfl,h1,h2,h3,fun j a h=>.eP _ _ (h4 j a h)⟩
 |fn f cZ vs g h1 h2 h3 h4=>exact⟨vs,g,rfl,h1,h2,h3,h4⟩
theorem JS {v:Value} (h:dc P w D ι .gP v):v=.pointer none:=by
 cases h with
 |eP _ _ h=>cases h;rfl
theorem Cm {v:Value} (h:dc P w D ι .jk v):v=.map none:=by
 cases h with
 |eP _ _ h=>cases h;rfl
theorem My {f cZ} {v:Value} (h:dc P w D ι (.tT f cZ) v):∃(vs:Array Value) (g:Nat->Value),v=.func (.func f) vs #[]/\fQ P f=true/\vs.size=cZ.length/\(∀j,j<cZ.length->vs[j]? =some (g j))/\∀j a,cZ[j]? =some a->dc P w D ι a (g j):=by
 cases h with
 |eP _ _ h=>cases h
 |tT f cZ vs g h1 h2 h3 h4=>exact⟨vs,g,rfl,h1,h2,h3,h4⟩
theorem iT {id off len} {v:Value} (h:dc P w D ι (.own id off len) v):∃o cap B,v=.slice (some ⟨B.b,o,none⟩) len cap/\ι id=some B/\len<=cap/\(cap=0∨o=off*B.sz)/\(off+cap)*B.sz<=B.C/\cap<=maxLen/\B.k=none:=by
 cases h with
 |eP _ _ h=>cases h
 |own id off len o cap B h1 h2 h3 h4 h5 h6=>exact⟨o,cap,B,rfl,h1,h3,h4,h5,h6,h2⟩
theorem iU {id i off} {v:Value} (h:dc P w D ι (.ptr id i off) v):∃B,v=.pointer (some ⟨B.b,i*B.sz+off,none⟩)/\ι id=some B/\B.k=none:=by
 cases h with
 |eP _ _ h=>cases h
 |ptr id i off B h1 h2=>exact⟨B,rfl,h1,h2⟩
theorem Mw {id} {v:Value} (h:dc P w D ι (.rK id) v):∃B c,v=.chan (some B.b)/\ι id=some B/\B.k=some (.chan c):=by
 cases h with
 |eP _ _ h=>cases h
 |rK id c B h1 h2=>exact⟨B,c,rfl,h1,h2⟩
theorem FK {id m} {v:Value} (h:dc P w D ι (.map id m) v):∃B,v=.map (some B.b)/\ι id=some B/\B.k=some (.map m):=by
 cases h with
 |eP _ _ h=>cases h
 |map id m B h1 h2=>exact⟨B,rfl,h1,h2⟩
theorem k7 {cs} {v:Value} (h:dc P w D ι (.dm cs) v):∃b o,∃vs:Nat->Value,v=.pointer (some ⟨b,o,none⟩)/\D b/\(∀a∈cs,a.cell=true)/\(∀j,j<cs.length->w.cell? ⟨b,o+j,none⟩=some (vs j))/\∀j a,cs[j]? =some a->jC P w D a (vs j):=by
 cases h with
 |eP _ _ h=>
  cases h with
  |dm cs b o vs h1 h2 h3 h4=>exact⟨b,o,vs,rfl,h1,h2,h3,h4⟩
theorem wR {rows} {v:Value} (h:dc P w D ι (.sl rows) v):∃A c,v=.slice A rows.length c/\rows.length<=c/\c<=maxLen/\
  (rows=[]∨∃b o sz,∃vs:Nat->Nat->Value,A=some ⟨b,o,none⟩/\D b/\(∀cs∈rows,cs.length=sz)/\(∀cs∈rows,∀a∈cs,a.cell=true)/\
   (∀i j,i<rows.length->j<sz->w.cell? ⟨b,o+(i*sz+j),none⟩=some (vs i j))/\∀i j cs a,rows[i]? =some cs->cs[j]? =some a->jC P w D a (vs i j)):=by
 cases h with
 |eP _ _ h=>
  cases h with
  |AG a c h=>exact⟨a,c,rfl,Nat.zero_le _,h,.inl rfl⟩
  |sl rows b o n c sz vs h1 h2 h3 h4 h5 h5' h6 h7=>subst h1;exact⟨_,c,rfl,h2,h3,.inr ⟨b,o,sz,vs,rfl,h4,h5,h5',h6,h7⟩⟩
inductive eD:AV->Prop
 |int (k n):eD (.int k n)
 |bool (b):eD (.bool b)
 |str (s):eD (.str s)
 |bV:eD .bV
 |gP:eD .gP
 |jb:eD .jb
 |sl (rows):rows.length<=maxLen->(∀cs∈rows,∀a∈cs,eD a)->eD (.sl rows)
 |own (id off len):eD (.own id off len)
 |ptr (id i off):eD (.ptr id i off)
 |dm (cs):(∀a∈cs,eD a)->eD (.dm cs)
 |agg (cs):(∀a∈cs,eD a)->eD (.agg cs)
 |iC (cs):(∀a∈cs,eD a)->eD (.iC cs)
 |fn (f cZ):(∀a∈cZ,eD a)->eD (.fn f cZ)
 |map (id m):eD (.map id m)
 |rK (id):eD (.rK id)
 |jk:eD .jk
 |tT (f cZ):(∀a∈cZ,eD a)->eD (.tT f cZ)
theorem eD.len {rows:List (List AV)} (h:eD (.sl rows)):rows.length<=9223372036854775807:=by
 cases h with
 |sl _ h _=>unfold maxLen at h;omega
theorem eD.cell {rows:List (List AV)} (h:eD (.sl rows)) {cs:List AV} (hc:cs∈rows) {a:AV} (ha:a∈cs):eD a:=by
 cases h with
 |sl _ _ h=>exact h cs hc a ha
theorem eD.NS {cs:List AV} (h:eD (.agg cs)) {a:AV} (ha:a∈cs):eD a:=by
 cases h with
 |agg _ h=>exact h a ha
theorem eD.BR {cs:List AV} (h:eD (.dm cs)) {a:AV} (ha:a∈cs):eD a:=by
 cases h with
 |dm _ h=>exact h a ha
theorem oV {l:List AV} {p:AV->Prop} (h:∀(j:Nat) (a:AV),l[j]? =some a->p a):∀a∈l,p a:=fun a ha=>by
 obtain⟨j,hj,rfl⟩:=List.getElem_of_mem ha
 exact h j _ (List.getElem?_eq_getElem hj)
theorem jC.Jm {a:AV} {v:Value} (h:jC P w D a v):eD a:=by
 induction h with
 |int k n=>exact .int k n
 |bool b=>exact .bool b
 |str s=>exact .str s
 |bV=>exact .bV
 |gP=>exact .gP
 |jb=>exact .jb
 |jk=>exact .jk
 |AG a c h=>exact .sl [] (Nat.zero_le _) (fun cs h=>by cases h)
 |sl rows b o n c sz vs h1 h2 h3 h4 h5 h5' h6 _ ih=>
  exact .sl rows (by omega) fun cs dr a ha=>by
   obtain⟨i,hi,rfl⟩:=List.getElem_of_mem dr
   obtain⟨j,hj,rfl⟩:=List.getElem_of_mem ha
   exact ih i j _ _ (List.getElem?_eq_getElem hi) (List.getElem?_eq_getElem hj)
 |dm cs b o vs h1 Oh h2 _ ih=>exact .dm cs (oV ih)
 |agg cs vs f h1 h2 h3 _ ih=>exact .agg cs (oV ih)
 |fn f cZ vs g h1 h2 h3 _ ih=>exact .fn f cZ (oV ih)
theorem dc.Jm {a:AV} {v:Value} (h:dc P w D ι a v):eD a:=by
 induction h with
 |eP a v h=>exact h.Jm
 |own id off len o cap B=>exact .own _ _ _
 |ptr id i off B=>exact .ptr _ _ _
 |map id m B=>exact .map _ _
 |rK id c B=>exact .rK _
 |agg cs vs f h1 h2 h3 _ ih=>exact .agg cs (oV ih)
 |iC cs vs f h1 h2 _ ih=>exact .iC cs (oV ih)
 |fn f cZ vs g h1 h2 h3 _ ih=>exact .fn f cZ (oV ih)
 |tT f cZ vs g h1 h2 h3 _ ih=>exact .tT f cZ (oV ih)
end Go.Proofs.YtgoelphibofcmaaGreat.V

namespace Go.Proofs.YtgoelphibofcmaaGreat.V
open Go.RowKit
variable {P:Program} {w w':World} {D D':Nat->Prop} {ι ι':Names}
def cm (P:Program) (w:World) (D:Nat->Prop) (ι:Names) (env:Env) (a:Act):Prop:=∀t,dc P w D ι (env t) (a.tmps.getD t undef)
theorem r6 {vs:List Value} {cs:List K} (h:vs.mapM GM=some cs):cs.length=vs.length/\∀(j:Nat) (c:K),cs[j]? =some c->vs[j]? =some c.val:=by
 induction vs generalizing cs with
 |nil=>simp at h;subst h;simp
 |cons v r ih=>
  simp only[List.mapM_cons,Option.bind_eq_bind,Option.bind_eq_some_iff]at h
  obtain⟨c,hc,qd,dr,h⟩:=h
  simp at h;subst h
  obtain⟨h1,h2⟩:=ih dr
  refine⟨by simp[h1],fun j d hd=>?_⟩
  cases j with
  |zero=>simp at hd ⊢;subst hd;exact zG hc
  |succ j=>simp at hd ⊢;exact h2 j d hd
theorem Vk {vs:List Value} {cs:List K} (h:vs.mapM GM=some cs):dc P w D ι (.agg (cs.map K.av)) (.agg vs.toArray):=by
 obtain⟨h1,h2⟩:=r6 h
 refine .agg _ _ (fun j=>vs.getD j undef) (by simp[h1]) (fun a ha=>?_) (fun j hj=>?_) (fun j a ha=>?_)
 ·obtain⟨c,_,rfl⟩:=List.mem_map.1 ha;exact c.mL
 ·simp at hj;simp[List.getElem?_eq_getElem (show j<vs.length by omega)]
 ·simp only[List.getElem?_map,Option.map_eq_some_iff]at ha
  obtain⟨c,hc,rfl⟩:=ha
  rw[List.getD_eq_getElem?_getD,h2 j c hc];exact wP c
theorem dj {env:Env} {a:Act} {x:Operand} {y:O} (E:cm P w D ι env a) (h:cO P x=some y):dc P w D ι (da env y) (a.eval x):=by
 unfold cO at h
 split at h
 ·simp at h;subst h;exact E _
 ·simp only[Option.map_eq_some_iff]at h
  obtain⟨cs,dr,rfl⟩:=h
  have:=Vk (P:=P) (w:=w) (D:=D) (ι:=ι) dr
  simpa[Act.eval,da]using this
 ·simp only[Option.map_eq_some_iff]at h
  obtain⟨c,hc,rfl⟩:=h
  simp only[Act.eval,da]
  rw[zG hc];exact wP c
 ·simp at h
 ·split at h
  ·rename_i hc
   simp at h;subst h
   simp only[Act.eval,da]
   exact .fn _ _ _ (fun _=>undef) hc rfl (fun j hj=>by simp at hj) (fun j a h=>by simp at h)
  ·simp at h
def om (P:Program) (a:Act) (o:Oper) (w:World) (D:Nat->Prop) (ι:Names) (v:AV):Prop:=∃u,(execOp a.eval o).run P w=.ok (.value u) w/\dc P w D ι v u
section
variable {g:Rows} {hs:Nat} {env:Env} {a:Act} {o:Oper} {id:Id} {v:AV}
theorem NI {x:Operand} {y:O} (E:cm P w D ι env a) (ho:o.op=.move x∨o.op=.assign x) (hx:cO P x=some y):om P a o w D ι (da env y):=by
 refine⟨a.eval x,?_,dj E hx⟩
 rcases ho with h|h<;>simp[execOp,h,go_sem]
theorem PX {c x y:Operand} {c' x' y':O} (E:cm P w D ι env a) (ho:o.op=.pick c x y) (hc:cO P c=some c') (hx:cO P x=some x') (hy:cO P y=some y') (hv:cW (da env c') (da env x') (da env y')=some v):om P a o w D ι v:=by
 unfold cW at hv
 split at hv
 ·rename_i b hb
  simp at hv;subst hv
  have h1:=e7 (hb▸dj E hc)
  refine⟨if b then a.eval x else a.eval y,by simp only[execOp,ho,h1,asBool];rfl,?_⟩
  cases b
  ·exact dj E hy
  ·exact dj E hx
 ·simp at hv
theorem Sr {op:BinOp} {x y:Operand} {x' y':O} {t yt:TypeId} (E:cm P w D ι env a) (ho:o.op=.binOp op t x y yt) (he:op≠.eql) (hn:op≠.neq) (hx:cO P x=some x') (hy:cO P y=some y') (hv:dW op (da env x') (da env y')=some v):om P a o w D ι v:=by
 unfold dW at hv
 split at hv
 ·rename_i k n k' m hb sY
  split at hv
  ·rename_i hk
   subst hk
   have h1:=dp (hb▸dj E hx)
   have h2:=dp (sY▸dj E hy)
   have key:∀u,(binOp op t (.int k n) (.int k m)).run P w=.ok u w->(execOp a.eval o).run P w=.ok (.value u) w:=fun u hu=>by
    have e0:eqGuard op t x y (.int k n) (.int k m)=pure ():=by unfold eqGuard;cases op<;>rfl
    simp only[execOp,ho,h1,h2,e0]
    simp[go_sem,hu]
   cases op<;>simp only[dy]at hv<;>(try(simp at hv;done))<;>(try split at hv)<;>(try(simp at hv;done))<;>simp only[Option.some.injEq]at hv<;>subst hv<;>
    (refine⟨_,key _ (by simp only[binOp,ne_eq,not_true_eq_false,if_false,Op.intArith,Op.intDiv,Op.intBits,Op.intCmp, *];rfl),?_⟩)<;>
    first
     |exact .eP _ _ (.int _ _)
     |exact .eP _ _ (.bool _)
  ·simp at hv
 ·simp at hv
theorem PI {op:BinOp} {x y:Operand} {x' y':O} {t yt:TypeId} (E:cm P w D ι env a) (ho:o.op=.binOp op t x y yt) (he:op≠.eql) (hn:op≠.neq) (hx:cO P x=some x') (hy:cO P y=some y') (hv:cX op (da env x') (da env y')=some v):om P a o w D ι v:=by
 unfold cX at hv
 split at hv
 ·rename_i n m hb sY
  have h1:=fD (hb▸dj E hx)
  have h2:=fD (sY▸dj E hy)
  cases op<;>simp only[eh]at hv<;>(try(simp at hv;done))
  case add=>
   split at hv
   ·rename_i hl
    simp only[Option.some.injEq]at hv;subst hv
    exact⟨_,by simp only[execOp,ho,h1,h2];simp[eqGuard,binOp,go_sem];exact hl,.eP _ _ (.str _)⟩
   ·simp at hv
  all_goals
   simp only[Option.some.injEq]at hv;subst hv
   exact⟨_,by simp only[execOp,ho,h1,h2];simp[eqGuard,binOp,Op.stringOp,go_sem],.eP _ _ (.bool _)⟩
 ·simp at hv
theorem FP (n m:ByteArray):(n.toList==m.toList)=decide (n=m):=by
 rw[ByteArray.toList_eq,ByteArray.toList_eq]
 by_cases h:n=m
 ·subst h;simp
 ·have:n.data.toList≠m.data.toList:=fun he=>h (ByteArray.ext (Array.ext' he))
  rw[decide_eq_false h];exact beq_eq_false_iff_ne.2 this
theorem pw {t:TypeId} (h:fj P t=some .tB):P.underlying t=some .bool:=by unfold fj at h;split at h<;>simp_all
theorem pz {t:TypeId} (h:fj P t=some .tI):∃k,P.underlying t=some (.int k):=by unfold fj at h;split at h<;>simp_all
theorem pC {t:TypeId} (h:fj P t=some .tS):P.underlying t=some .string:=by unfold fj at h;split at h<;>simp_all
theorem sg {d:Nat} {t:TypeId} {s:TS} {x y:AV} {u u':Value} {b:Bool} (hx:dc P w D ι x u) (hy:dc P w D ι y u') (hv:fY s x y=some b) (ht:fj P t=some s):(Op.equalIn (d+1) t u u').run P w=.ok b w:=by
 unfold fY at hv
 split at hv
 ·rename_i k n k' m
  split at hv
  ·rename_i hk
   subst hk
   simp at hv;subst hv
   obtain⟨q,hq⟩:=pz ht
   rw[dp hx,dp hy,run_equalIn_int _ _ _ _ _ _ _ hq];rfl
  ·simp at hv
 ·simp at hv;subst hv
  rw[e7 hx,e7 hy,run_equalIn_bool' _ _ _ _ _ (pw ht)]
 ·simp at hv;subst hv
  rw[fD hx,fD hy,run_equalIn_string _ _ _ _ _ (pC ht),FP]
 ·simp at hv
def fh (P:Program) (w:World) (D:Nat->Prop) (ι:Names) (xs:List AV) (vs:Array Value):Prop:=vs.size=xs.length/\∀(j:Nat) (a:AV),xs[j]? =some a->∃u,vs[j]? =some u/\dc P w D ι a u
theorem fh.part {xs:List AV} {vs:Array Value} (h:fh P w D ι xs vs) (off n:Nat) (hn:off+n<=xs.length):fh P w D ι ((xs.drop off).take n) (vs.extract off (off+n)):=by
 refine⟨by simp[h.1];omega,fun j a ha=>?_⟩
 rw[List.getElem?_take]at ha
 split at ha
 ·rename_i hj
  rw[List.getElem?_drop]at ha
  obtain⟨u,h1,h2⟩:=h.2 _ _ ha
  refine⟨u,?_,h2⟩
  rw[Array.getElem?_extract]
  rw[if_pos (by rw[h.1];omega),h1]
 ·simp at ha
theorem rO:∀{ts:List TS} {xs ys:List AV} {b:Bool},eU ts xs ys=some b->xs.length=ts.length/\ys.length=ts.length
 |[],[],[],_,_=>⟨rfl,rfl⟩
 |t::ts,x::xs,y::ys,b,h=>by
  unfold eU at h
  split at h
  ·rename_i c d h1 h2
   have:=rO h2
   simp[this.1,this.2]
  ·simp at h
 |[],[],_::_,_,h=>by simp[eU]at h
 |[],_::_,_,_,h=>by simp[eU]at h
 |_::_,[],_,_,h=>by simp[eU]at h
 |_::_,_::_,[],_,h=>by simp[eU]at h
theorem Ff:∀{ts us:List TS} {xs ys:List AV} {b:Bool},eU (ts++us) xs ys=some b->∃c d,eU ts (xs.take ts.length) (ys.take ts.length)=some c/\eU us (xs.drop ts.length) (ys.drop ts.length)=some d/\b=(c&&d)
 |[],us,xs,ys,b,h=>⟨true,b,by simp[eU],by simpa using h,by simp⟩
 |t::ts,us,x::xs,y::ys,b,h=>by
  simp only[List.cons_append]at h
  unfold eU at h
  split at h
  ·rename_i c d h1 h2
   obtain⟨c',d',h3,h4,rfl⟩:=Ff h2
   simp at h;subst h
   exact⟨c&&c',d',by simp[eU,h1,h3],by simpa using h4,by simp[Bool.and_assoc]⟩
  ·simp at h
 |t::ts,us,[],ys,b,h=>by simp[eU]at h
 |t::ts,us,x::xs,[],b,h=>by simp[eU]at h
theorem ml {t:TypeId} {vs:Array Value} {off:Nat} {u:Value} (ha:nO P t=some false) (hu:vs[off]? =some u):(Go.part t vs off).run P w=.ok u w:=by
 unfold nO at ha
 have hi:(isAgg t).run P w=.ok false w:=by
  split at ha<;>simp at ha
  rename_i d h1 h2 hd
  simp only[isAgg,Sem.run_bind,run_underlying hd,Result.andThen_ok]
  cases d<;>simp_all
 simp[Go.part,hi,hu]
theorem th {t:TypeId} {b:Bool} (ha:nO P t=some b):(isAgg t).run P w=.ok b w:=by
 unfold nO at ha
 split at ha<;>simp at ha<;>subst ha<;>rename_i hd<;>simp only[isAgg,Sem.run_bind,run_underlying hd,Result.andThen_ok]<;>(try simp)
theorem run_sizeOf {t:TypeId} {n:Nat} (h:ei P t=some n):(sizeOf t).run P w=.ok n w:=by
 unfold ei at h
 simp only[Option.map_eq_some_iff]at h
 obtain⟨i,hi,rfl⟩:=h
 simp[sizeOf,typeInfo,hi]
theorem pr {t:TypeId} {vs:Array Value} {off n:Nat} (ha:nO P t=some true) (hn:ei P t=some n):(Go.part t vs off).run P w=.ok (.agg (vs.extract off (off+n))) w:=by
 simp[Go.part,th ha,run_sizeOf hn]
theorem IG (d off:Nat):eG P (d+1) off []=some []:=rfl
theorem yd (d off:Nat) (f:Field) (r:List Field):eG P (d+1) off (f::r)=(if f.offset=off/\f.name≠ "_" then
   match fj P f.type with
   |some t=>if nO P f.type=some false then(eG P (d+1) (off+1) r).map (t::·)else none
   |none=>match P.underlying f.type with
    |some (.struct fs)=>if !P.stoodInHeld f.type then match eG P d 0 fs.toList with
     |some ts=>if ei P f.type=some ts.length/\ts≠[]then(eG P (d+1) (off+ts.length) r).map (ts++·)else none
     |none=>none else none
    |_=>none
  else none):=rfl
theorem sf:∀(d:Nat) (fs:List Field) (off:Nat) (ts:List TS),eG P d off fs=some ts->∀(N:Nat) (_:d<=N) (xs ys:List AV) (vs us:Array Value) (b:Bool),fh P w D ι xs vs->fh P w D ι ys us->
  eU ts ((xs.drop off).take ts.length) ((ys.drop off).take ts.length)=some b->(Op.eqFields (N+1) vs us fs).run P w=.ok b w:=by
 intro d
 induction d with
 |zero=>
  intro fs off ts hf N _ xs ys vs us b _ _ he
  cases fs with
  |nil=>simp[eG]at hf;subst hf;simp[eU]at he;subst he;simp[Op.eqFields]
  |cons f r=>simp[eG]at hf
 |succ d ihd=>
  intro fs
  induction fs with
  |nil=>
   intro off ts hf N _ xs ys vs us b _ _ he
   rw[IG]at hf;simp at hf;subst hf;simp[eU]at he;subst he;simp[Op.eqFields]
  |cons f r ih=>
   intro off ts hf N hN xs ys vs us b hx hy he
   rw[yd]at hf
   split at hf
   ·rename_i hcond
    obtain⟨ho,gY⟩:=hcond
    split at hf
    ·rename_i s hs
     split at hf
     ·rename_i uH
      simp only[Option.map_eq_some_iff]at hf
      obtain⟨KQ,hr,rfl⟩:=hf
      obtain⟨l1,l2⟩:=rO he
      simp only[List.length_cons,List.length_take,List.length_drop]at l1 l2
      have AF:off<xs.length:=by omega
      have hyo:off<ys.length:=by omega
      rw[List.drop_eq_getElem_cons AF,List.drop_eq_getElem_cons hyo,List.length_cons,List.take_succ_cons,List.take_succ_cons]at he
      unfold eU at he
      split at he
      ·rename_i c d' h1 h2
       simp at he;subst he
       obtain⟨u,hu,ru⟩:=hx.2 off _ (List.getElem?_eq_getElem AF)
       obtain⟨u',Fv,ru'⟩:=hy.2 off _ (List.getElem?_eq_getElem hyo)
       have:=ih (off+1) KQ hr N hN xs ys vs us d' hx hy h2
       simp only[Op.eqFields,if_pos gY,Sem.run_bind,ho,ml uH hu,ml uH Fv,Result.andThen_ok,sg ru ru' h1 hs,Sem.run_ite]
       cases c<;>simp[this]
      ·simp at he
     ·simp at hf
    ·split at hf
     ·rename_i QW rQ
      split at hf
      ·rename_i dL
       split at hf
       ·rename_i ts1 hts1
        split at hf
        ·rename_i fa
         simp only[Option.map_eq_some_iff]at hf
         obtain⟨KQ,hr,rfl⟩:=hf
         obtain⟨c,d',h1,h2,rfl⟩:=Ff he
         obtain⟨l1,l2⟩:=rO he
         simp only[List.length_append,List.length_take,List.length_drop]at l1 l2
         have uH:nO P f.type=some true:=by simp[nO,rQ]
         have lu:0<ts1.length:=List.length_pos_iff.2 fa.2
         have Jd:off+ts1.length<=xs.length:=by omega
         have RQ:off+ts1.length<=ys.length:=by omega
         rw[List.drop_take,List.drop_drop,List.drop_take,List.drop_drop]at h2
         rw[List.take_take,List.take_take]at h1
         simp only[List.length_append]at h1 h2
         rw[Nat.min_eq_left (by omega)]at h1
         have e2:ts1.length+KQ.length-ts1.length=KQ.length:=by omega
         rw[e2]at h2
         have:=ih (off+ts1.length) KQ hr N hN xs ys vs us d' hx hy h2
         have fU:=ihd QW.toList 0 ts1 hts1 (N-1) (by omega) _ _ _ _ c (hx.part off ts1.length Jd) (hy.part off ts1.length RQ) (by simpa[List.take_take]using h1)
         have hN':N-1+1=N:=by omega
         rw[hN']at fU
         have Nf:P.fieldsOf f.type=QW:=by simp[Program.fieldsOf,rQ]
         simp only[Op.eqFields,if_pos gY,Sem.run_bind,ho,pr uH fa.1,Result.andThen_ok,Sem.run_ite]
         rw[run_equalIn_struct w N f.type _ _ (by rw[Nf];exact rQ) (by simpa using dL),Nf,fU]
         cases c<;>simp[this]
        ·simp at hf
       ·simp at hf
      ·simp at hf
     ·simp at hf
   ·simp at hf
theorem Sw {x y:Operand} {x' y':O} {t yt:TypeId} {neg:Bool} {s:TS} {b:Bool} (E:cm P w D ι env a) (ho:o.op=.binOp (if neg then .neq else .eql) t x y yt) (hs:fj P t=some s) (hx:cO P x=some x') (hy:cO P y=some y')
  (hv:fY s (da env x') (da env y')=some b):om P a o w D ι (.bool (dn neg b)):=by
 have rx:=dj E hx
 have ry:=dj E hy
 refine⟨.bool (dn neg b),?_,.eP _ _ (.bool _)⟩
 have e0:(eqGuard (if neg then .neq else .eql) t x y (a.eval x) (a.eval y)).run P w=.ok () w:=by
  unfold fY at hv
  split at hv
  ·rename_i k n k' m h1 h2
   rw[h1]at rx;rw[h2]at ry
   rw[dp rx,dp ry];unfold eqGuard;cases neg<;>simp
  ·rename_i n m h1 h2
   rw[h1]at rx;rw[h2]at ry
   rw[e7 rx,e7 ry];unfold eqGuard;cases neg<;>simp
  ·rename_i n m h1 h2
   rw[h1]at rx;rw[h2]at ry
   rw[fD rx,fD ry];unfold eqGuard;cases neg<;>simp
  ·simp at hv
 have e1:(binOp (if neg then .neq else .eql) t (a.eval x) (a.eval y)).run P w=.ok (.bool (dn neg b)) w:=by
  have q:=sg (d:=9999) rx ry hv hs
  unfold fY at hv
  split at hv
  ·rename_i k n k' m h1 h2
   split at hv
   ·rename_i hk
    subst hk
    simp at hv;subst hv
    rw[h1]at rx;rw[h2]at ry
    rw[dp rx,dp ry]
    cases neg<;>simp only[binOp,ne_eq,not_true_eq_false,if_false,Op.intCmp,dn,if_true,Bool.false_eq_true]<;>simp[bne]<;>rfl
   ·simp at hv
  ·rename_i n m h1 h2
   rw[h1]at rx;rw[h2]at ry
   rw[e7 rx,e7 ry]at q ⊢
   cases neg<;>simp only[binOp,dn,if_true,Bool.false_eq_true,if_false,Sem.run_bind]<;>simp[Op.equal,Op.maxDepth,q]
  ·rename_i n m h1 h2
   simp at hv;subst hv
   rw[h1]at rx;rw[h2]at ry
   rw[fD rx,fD ry]
   cases neg<;>simp[binOp,Op.stringOp,dn,FP]
  ·simp at hv
 simp only[execOp,ho,Sem.run_bind,e0,e1,Result.andThen_ok,Sem.run_pure]
theorem Su {x y:Operand} {x' y':O} {t yt:TypeId} {neg:Bool} {ts:List TS} {fs:Array Field} {xs ys:List AV} {b:Bool} (E:cm P w D ι env a) (ho:o.op=.binOp (if neg then .neq else .eql) t x y yt) (rQ:P.underlying t=some (.struct fs)) (dL:P.stoodInHeld t=false) (Lt:P.eqGuardType P.depth t=false)
  (xG:eG P 4 0 fs.toList=some ts) (hx:cO P x=some x') (hy:cO P y=some y') (h1:da env x'=.agg xs) (h2:da env y'=.agg ys)
  (hv:eU ts xs ys=some b):om P a o w D ι (.bool (dn neg b)):=by
 obtain⟨vs,f,rx,n1,_,f1,r1⟩:=iz (h1▸dj E hx)
 obtain⟨us,f',ry,n2,_,f2,r2⟩:=iz (h2▸dj E hy)
 refine⟨.bool (dn neg b),?_,.eP _ _ (.bool _)⟩
 obtain⟨l1,l2⟩:=rO hv
 have L:∀(xs:List AV) (vs:Array Value) (f:Nat->Value),vs.size=xs.length->(∀j,j<xs.length->vs[j]? =some (f j))->(∀j a,xs[j]? =some a->dc P w D ι a (f j))->fh P w D ι xs vs:=fun xs vs f h1 h2 h3=>
  ⟨h1,fun j a ha=>⟨f j,h2 j (List.getElem?_eq_some_iff.1 ha).1,h3 j a ha⟩⟩
 have q:=sf (w:=w) 4 fs.toList 0 ts xG 9998 (by omega) xs ys vs us b (L _ _ _ n1 f1 r1) (L _ _ _ n2 f2 r2) (by simpa[List.take_of_length_le,l1,l2]using hv)
 have Nf:P.fieldsOf t=fs:=by simp[Program.fieldsOf,rQ]
 have q2:(Op.equal t (.agg vs) (.agg us)).run P w=.ok b w:=by
  unfold Op.equal
  rw[show Op.maxDepth=9999+1 from rfl,run_equalIn_struct w 9999 t _ _ (by rw[Nf];exact rQ) dL,Nf,q]
 simp only[execOp,ho,Sem.run_bind,rx,ry,run_eqGuard_agg w _ _ _ _ _ _ Lt,Result.andThen_ok]
 cases neg<;>simp[binOp,q2,dn]
theorem PL {x:Operand} {x':O} {t yt e:TypeId} {neg:Bool} {b:Bool} (E:cm P w D ι env a) (ho:o.op=.binOp (if neg then .neq else .eql) t x (.const (.slice none 0 0)) yt) (ht:P.underlying t=some (.slice e)) (hx:cO P x=some x')
  (hv:cV (da env x')=some b):om P a o w D ι (.bool (dn neg b)):=by
 have hr:=dj E hx
 have rx:∃A n c,a.eval x=.slice A n c/\b=A.isNone:=by
  unfold cV at hv
  split at hv<;>simp at hv<;>subst hv<;>rename_i hh
  ·rw[hh]at hr;exact⟨_,_,_,iR hr,rfl⟩
  ·rw[hh]at hr;obtain⟨o,cap,B,h,_⟩:=iT hr
   exact⟨_,_,_,h,rfl⟩
  ·rw[hh]at hr
   obtain⟨A,c,h',_,_,h⟩:=wR hr
   rcases h with h|⟨b,o,sz,vs,rfl,_⟩
   ·simp at h
   ·exact⟨_,_,_,h',rfl⟩
 refine⟨.bool (dn neg b),?_,.eP _ _ (.bool _)⟩
 obtain⟨A,n,c,h,rfl⟩:=rx
 have hq:(Op.equal t (.slice A n c) (.slice none 0 0)).run P w=.ok A.isNone w:=by
  unfold Op.equal
  rw[show Op.maxDepth=9999+1 from rfl,Op.equalIn]
  simp only[Sem.run_bind,run_underlying ht,Result.andThen_ok]
  cases A<;>rfl
 have hc:a.eval (.const (.slice none 0 0))=.slice none 0 0:=rfl
 simp only[execOp,ho,h,hc]
 cases neg<;>simp only[Bool.false_eq_true,if_false,if_true,Bool.not_true,Bool.not_false,eqGuard,binOp,dn,Sem.run_bind,hq,Result.andThen_ok,Sem.run_pure]
theorem Sv {x:Operand} {x':O} {t yt e:TypeId} {neg:Bool} {b:Bool} (E:cm P w D ι env a) (ho:o.op=.binOp (if neg then .neq else .eql) t x (.const (.pointer none)) yt) (ht:P.underlying t=some (.pointer e)) (hx:cO P x=some x')
  (hv:Kp (da env x')=some b):om P a o w D ι (.bool (dn neg b)):=by
 have hr:=dj E hx
 have rx:∃A,a.eval x=.pointer A/\b=A.isNone:=by
  unfold Kp at hv
  split at hv<;>simp at hv<;>subst hv<;>rename_i hh
  ·rw[hh]at hr;exact⟨_,JS hr,rfl⟩
  ·rw[hh]at hr;obtain⟨B,h,_⟩:=iU hr
   exact⟨_,h,rfl⟩
  ·rw[hh]at hr;obtain⟨_,_,_,h,_⟩:=k7 hr
   exact⟨_,h,rfl⟩
 refine⟨.bool (dn neg b),?_,.eP _ _ (.bool _)⟩
 obtain⟨A,h,rfl⟩:=rx
 have hq:(Op.equal t (.pointer A) (.pointer none)).run P w=.ok A.isNone w:=by
  unfold Op.equal
  rw[show Op.maxDepth=9999+1 from rfl,Op.equalIn]
  simp only[Sem.run_bind,run_underlying ht,Result.andThen_ok]
  cases A<;>rfl
 have hc:a.eval (.const (.pointer none))=.pointer none:=rfl
 simp only[execOp,ho,h,hc]
 cases neg<;>simp only[Bool.false_eq_true,if_false,if_true,Bool.not_true,Bool.not_false,eqGuard,binOp,dn,Sem.run_bind,hq,Result.andThen_ok,Sem.run_pure]
theorem PK {x:Operand} {x':O} {t yt:TypeId} {p r:Array TypeId} {va:Bool} {neg:Bool} {b:Bool} (E:cm P w D ι env a) (ho:o.op=.binOp (if neg then .neq else .eql) t x (.const .nilFunc) yt) (ht:P.underlying t=some (.func p r va)) (hx:cO P x=some x')
  (hv:cU (da env x')=some b):om P a o w D ι (.bool (dn neg b)):=by
 have hr:=dj E hx
 have rx:a.eval x=.nilFunc/\b=true∨∃f c,a.eval x=.func f #[] c/\b=false:=by
  unfold cU at hv
  split at hv<;>simp at hv<;>subst hv<;>rename_i hh
  ·rw[hh]at hr;exact .inl ⟨wQ hr,rfl⟩
  ·rw[hh]at hr;obtain⟨vs,g,h,_⟩:=wO hr
   exact .inr ⟨_,_,h,rfl⟩
 refine⟨.bool (dn neg b),?_,.eP _ _ (.bool _)⟩
 have hc:a.eval (.const .nilFunc)=.nilFunc:=rfl
 rcases rx with⟨h,rfl⟩|⟨f,c,h,rfl⟩
 ·have hq:(Op.equal t .nilFunc .nilFunc).run P w=.ok true w:=by
   unfold Op.equal
   rw[show Op.maxDepth=9999+1 from rfl,Op.equalIn]
   simp only[Sem.run_bind,run_underlying ht,Result.andThen_ok]
   rfl
  simp only[execOp,ho,h,hc]
  cases neg<;>simp only[Bool.false_eq_true,if_false,if_true,Bool.not_true,Bool.not_false,eqGuard,binOp,dn,Sem.run_bind,hq,Result.andThen_ok,Sem.run_pure]
 ·have hq:(Op.equal t (.func f #[] c) .nilFunc).run P w=.ok false w:=by
   unfold Op.equal
   rw[show Op.maxDepth=9999+1 from rfl,Op.equalIn]
   simp only[Sem.run_bind,run_underlying ht,Result.andThen_ok]
   rfl
  simp only[execOp,ho,h,hc]
  cases neg<;>simp only[Bool.false_eq_true,if_false,if_true,Bool.not_true,Bool.not_false,eqGuard,binOp,dn,Sem.run_bind,hq,Result.andThen_ok,Sem.run_pure]
theorem Sz {x:Operand} {x':O} {t:TypeId} (E:cm P w D ι env a) (ho:o.op=.unOp .not t x) (hx:cO P x=some x') (hv:eb (da env x')=some v):om P a o w D ι v:=by
 have hr:=dj E hx
 unfold eb at hv
 split at hv
 ·rename_i b hb
  simp at hv;subst hv
  rw[hb]at hr
  exact⟨_,by simp only[execOp,ho,e7 hr];rfl,.eP _ _ (.bool _)⟩
 ·simp at hv
theorem Sy {x:Operand} {x':O} {t:TypeId} (E:cm P w D ι env a) (ho:o.op=.unOp .neg t x) (hx:cO P x=some x') (hv:dZ (da env x')=some v):om P a o w D ι v:=by
 have hr:=dj E hx
 unfold dZ at hv
 split at hv
 ·rename_i k n hb
  simp at hv;subst hv
  rw[hb]at hr
  refine⟨_,by simp only[execOp,ho,dp hr];rfl,?_⟩
  rw[Int.zero_sub];exact .eP _ _ (.int _ _)
 ·simp at hv
theorem PJ {x:Operand} {x':O} {s d:TypeId} {k q:IntKind} (E:cm P w D ι env a) (ho:o.op=.convert s d x) (hs:P.underlying s=some (.int q)) (hd:P.underlying d=some (.int k)) (hx:cO P x=some x') (hv:cJ k (da env x')=some v):om P a o w D ι v:=by
 have hr:=dj E hx
 unfold cJ at hv
 split at hv
 ·rename_i k' n hb
  simp at hv;subst hv
  rw[hb]at hr
  refine⟨.int k (k.wrap n),?_,.eP _ _ (.int _ _)⟩
  simp only[execOp,ho,dp hr,convert,Sem.run_bind,run_underlying hs,run_underlying hd,Result.andThen_ok,Conv.intToInt,Sem.run_pure]
 ·simp at hv
theorem MU {x:Operand} {x':O} {s:TypeId} {i:Nat} {fs:Array Field} {f:Field} {m:Nat} (E:cm P w D ι env a) (ho:o.op=.fieldAddr s x i) (hs:P.underlying s=some (.struct fs)) (hf:fs[i]? =some f) (hm:ei P f.type=some (m+1)) (hx:cO P x=some x')
  (hv:ER f.offset (da env x')=some v):om P a o w D ι v:=by
 have hr:=dj E hx
 have go:∀b oo,a.eval x=.pointer (some ⟨b,oo,none⟩)->(execOp a.eval o).run P w=.ok (.value (.pointer (some ⟨b,oo+f.offset,none⟩))) w:=fun b oo h=>by
  simp only[execOp,ho,h,Instr.fieldAt,Sem.run_bind,run_underlying hs,Result.andThen_ok,hf,Instr.sureAddr,Sem.run_pure,fieldPlace,run_sizeOf hm,Nat.add_eq_zero_iff,Nat.one_ne_zero,and_false,if_false,Addr.add]
  split
  ·rename_i h0;simp[h0]
  ·rfl
 unfold ER at hv
 split at hv
 ·rename_i kR i' oo hb
  simp at hv;subst hv
  rw[hb]at hr
  obtain⟨B,h,hB,hk⟩:=iU hr
  refine⟨_,go _ _ h,?_⟩
  rw[Nat.add_assoc]
  exact .ptr _ _ _ _ hB hk
 ·rename_i cs hb
  simp at hv;subst hv
  rw[hb]at hr
  obtain⟨b,oo,vs,h,h1,h2,h3,h4⟩:=k7 hr
  refine⟨_,go _ _ h,.eP _ _ (.dm _ _ _ (fun j=>vs (f.offset+j)) h1 (fun a ha=>h2 a (List.mem_of_mem_drop ha)) (fun j hj=>?_) (fun j a ha=>h4 _ _ (by simpa using ha)))⟩
  rw[Nat.add_assoc]
  exact h3 _ (by simp at hj;omega)
 ·simp at hv
theorem MV {x:Operand} {x':O} {s:TypeId} {i n:Nat} {ag:Bool} {fs:Array Field} {f:Field} (E:cm P w D ι env a) (ho:o.op=.field s x i) (hs:P.underlying s=some (.struct fs)) (hf:fs[i]? =some f) (uH:nO P f.type=some ag) (hm:ei P f.type=some n) (hx:cO P x=some x')
  (hv:bH ag f.offset n (da env x')=some v):om P a o w D ι v:=by
 have hr:=dj E hx
 unfold bH at hv
 split at hv
 ·rename_i cs hb
  split at hv
  ·rename_i hl
   rw[hb]at hr
   obtain⟨vs,g,h,n1,fl,f1,r1⟩:=iz hr
   unfold part at hv
   cases ag with
   |true=>
    simp only[if_true]at hv
    split at hv
    ·simp at hv;subst hv
     refine⟨.agg (vs.extract f.offset (f.offset+n)),?_,.agg _ _ (fun j=>g (f.offset+j)) (by simp[n1];omega) (fun a ha=>fl a (List.mem_of_mem_drop (List.mem_of_mem_take ha))) (fun j hj=>?_) (fun j a ha=>?_)⟩
     ·simp only[execOp,ho,h,Instr.field,Sem.run_bind,run_underlying hs,Result.andThen_ok,hf,asAgg,Sem.run_pure,pr uH hm]
     ·simp at hj
      rw[Array.getElem?_extract,if_pos (by omega)];exact f1 _ (by omega)
     ·rw[List.getElem?_take]at ha
      split at ha
      ·exact r1 _ _ (by simpa using ha)
      ·simp at ha
    ·simp at hv
   |false=>
    simp only[Bool.false_eq_true,if_false]at hv
    have nU:cs[f.offset]? =some v:=by simpa[List.head?_drop]using hv
    have dR:=(List.getElem?_eq_some_iff.1 nU).1
    exact⟨g f.offset,by simp only[execOp,ho,h,Instr.field,Sem.run_bind,run_underlying hs,Result.andThen_ok,hf,asAgg,Sem.run_pure,ml uH (f1 _ dR)],r1 _ _ nU⟩
  ·simp at hv
 ·simp at hv
theorem SA {left:Bool} {x y:Operand} {x' y':O} {t yt:TypeId} (E:cm P w D ι env a) (ho:o.op=.binOp (if left then .shl else .shr) t x y yt) (hx:cO P x=some x') (hy:cO P y=some y') (hv:gU left (da env x') (da env y')=some v):om P a o w D ι v:=by
 unfold gU at hv
 split at hv
 ·rename_i k n k' m hb sY
  split at hv
  ·simp at hv
  ·rename_i hm
   simp at hv;subst hv
   have h1:=dp (hb▸dj E hx)
   have h2:=dp (sY▸dj E hy)
   refine⟨_,?_,.eP _ _ (.int _ _)⟩
   simp only[execOp,ho,h1,h2]
   cases left<;>simp only[Bool.false_eq_true,if_false,if_true,eqGuard,Bool.not_true,Bool.not_false,binOp,Op.shift,hm,Sem.run_bind,Sem.run_pure,Result.andThen_ok]<;>rfl
 ·simp at hv
end
end Go.Proofs.YtgoelphibofcmaaGreat.V

namespace Go.Proofs.YtgoelphibofcmaaGreat.V
open Go.RowKit
variable {P:Program} {w w':World} {D D':Nat->Prop} {ι ι':Names}
theorem kd (b o j:Nat):(⟨b,o,none⟩:Addr).add j=⟨b,o+j,none⟩:=by unfold Addr.add;split<;>simp_all
section
variable {g:Rows} {hs:Nat} {env:Env} {a:Act} {o:Oper} {id:Id} {v:AV}
theorem kG {t:TypeId} {ag:Bool} {n b oo:Nat} {cs:List AV} {v:AV} {f:Nat->Value} (uH:nO P t=some ag) (hn:ei P t=some n) (hp:part ag n cs=some v) (fl:∀a∈cs,a.cell=true)
  (hc:∀j,j<cs.length->w.cell? ⟨b,oo+j,none⟩=some (f j)) (hr:∀j a,cs[j]? =some a->dc P w D ι a (f j)):∃u,(loadVar t ⟨b,oo,none⟩).run P w=.ok u w/\dc P w D ι v u:=by
 unfold part at hp
 cases ag with
 |true=>
  simp only[if_true]at hp
  split at hp
  ·rename_i hl
   simp at hp;subst hp
   refine⟨.agg ((List.range n).map f).toArray,?_,.agg _ _ f (by simp;omega) (fun a ha=>fl a (List.mem_of_mem_take ha)) (fun j hj=>?_) (fun j a ha=>?_)⟩
   ·simp only[loadVar,Sem.run_bind,th uH,Result.andThen_ok,if_true,run_sizeOf hn,Sem.run_pure]
    rw[run_loadCells w _ n f (fun j hj=>by rw[kd];exact hc j (by omega))]
    rfl
   ·simp at hj
    have:j<n:=by omega
    simp[this]
   ·rw[List.getElem?_take]at ha
    split at ha
    ·exact hr _ _ ha
    ·simp at ha
  ·simp at hp
 |false=>
  simp only[Bool.false_eq_true,if_false]at hp
  cases cs with
  |nil=>simp at hp
  |cons c r=>
   simp at hp;subst hp
   refine⟨f 0,?_,hr 0 _ rfl⟩
   simp only[loadVar,Sem.run_bind,th uH,Result.andThen_ok,Bool.false_eq_true,if_false]
   have:=hc 0 (by simp)
   simp at this
   rw[run_load,this]
theorem JZ {S:gz P hs D ι g w} {i:Nat} {cs:List AV} (h:rowAt g id i=some cs) (hk:∀B,ι id=some B->B.k=none):∃B r,g id=some r/\ι id=some B/\kM P w D ι B r/\r.rows[i]? =some cs/\(∀a∈cs,a.cell=true)/\∃f:Nat->Value,∀j,j<cs.length->w.cell? ⟨B.b,i*B.sz+j,none⟩=some (f j)/\∀a,cs[j]? =some a->dc P w D ι a (f j):=by
 unfold rowAt at h
 simp only[Option.bind_eq_some_iff]at h
 obtain⟨r,hr,hi⟩:=h
 obtain⟨B,hB,R,_,_⟩:=S.row id r hr
 replace R:=R.row (hk B hB)
 refine⟨B,r,hr,hB,R,hi,R.flat cs (List.mem_of_getElem? hi),fun j=>(w.cell? ⟨B.b,i*B.sz+j,none⟩).getD undef,fun j hj=>?_⟩
 obtain⟨u,hu,xF⟩:=R.at_ i j cs _ hi (List.getElem?_eq_getElem hj)
 rw[R.sz,hu]
 refine⟨by simp only[hu,Option.getD_some],fun a ha=>?_⟩
 rw[List.getElem?_eq_getElem hj]at ha
 injection ha with ha
 subst ha
 simpa only[hu,Option.getD_some]using xF
theorem PS {x:Operand} {x':O} {t:TypeId} {ag:Bool} {n:Nat} (S:gz P hs D ι g w) (E:cm P w D ι env a) (ho:o.op=.load t x) (uH:nO P t=some ag) (hn:ei P t=some n) (hx:cO P x=some x') (hv:ld g ag n (da env x')=some v):om P a o w D ι v:=by
 have hr:=dj E hx
 have go:∀b oo u,a.eval x=.pointer (some ⟨b,oo,none⟩)->(loadVar t ⟨b,oo,none⟩).run P w=.ok u w->(execOp a.eval o).run P w=.ok (.value u) w:=fun b oo u h h2=>by
  simp only[execOp,ho,h,Instr.loadAt,Instr.sureAddr,Sem.run_bind,Sem.run_pure,Result.andThen_ok,h2]
 unfold ld at hv
 split at hv
 ·rename_i kR i' oo hb
  rw[hb]at hr
  obtain⟨B,h,hB,hk⟩:=iU hr
  simp only[Option.bind_eq_some_iff]at hv
  obtain⟨cs,dr,hp⟩:=hv
  obtain⟨B',r,HK,dD,R,hi,fl,f,hf⟩:=JZ (S:=S) dr (fun B2 h2=>by rw[hB]at h2;injection h2 with h2;subst h2;exact hk)
  rw[hB]at dD;injection dD with dD;subst dD
  obtain⟨u,h1,h2⟩:=kG (w:=w) (b:=B.b) (oo:=i'*B.sz+oo) (f:=fun j=>f (oo+j)) uH hn hp (fun a ha=>fl a (List.mem_of_mem_drop ha)) (fun j hj=>by
   rw[Nat.add_assoc];exact(hf _ (by simp at hj;omega)).1) (fun j a ha=>by
   simp at ha;exact(hf _ ((List.getElem?_eq_some_iff.1 ha).1)).2 _ ha)
  exact⟨u,go _ _ _ h h1,h2⟩
 ·rename_i cs hb
  rw[hb]at hr
  obtain⟨b,oo,vs,h,h1,h2,h3,h4⟩:=k7 hr
  obtain⟨u,k1,k2⟩:=kG (w:=w) (b:=b) (oo:=oo) (f:=vs) uH hn hv h2 h3 (fun j a ha=>.eP _ _ (h4 j a ha))
  exact⟨u,go _ _ _ h k1,k2⟩
 ·simp at hv
theorem Ss {x:Operand} {x':O} (E:cm P w D ι env a) (ho:o.op=.nilCheck x) (hx:cO P x=some x') (hv:dX (da env x')=some v):om P a o w D ι v:=by
 have hr:=dj E hx
 unfold dX at hv
 split at hv
 ·rename_i kR i' oo hb
  simp at hv;subst hv
  rw[hb]at hr
  obtain⟨B,h,hB,hk⟩:=iU hr
  exact⟨_,by simp only[execOp,ho,h];rfl,.ptr _ _ _ _ hB hk⟩
 ·rename_i cs hb
  simp at hv;subst hv
  rw[hb]at hr
  obtain⟨b,oo,vs,h,_⟩:=k7 hr
  exact⟨_,by simp only[execOp,ho,h];rfl,h▸hr⟩
 ·simp at hv
theorem MX {x i:Operand} {x' i':O} {t e:TypeId} {m:Nat} (S:gz P hs D ι g w) (E:cm P w D ι env a) (ho:o.op=.indexAddr t x i) (ht:P.underlying t=some (.slice e)) (hm:ei P e=some (m+1)) (hx:cO P x=some x') (hi:cO P i=some i')
  (hv:bI g (m+1) (da env x') (da env i')=some v):om P a o w D ι v:=by
 have hr:=dj E hx
 have DT:=dj E hi
 have go:∀b oo n c k (q:Int),a.eval x=.slice (some ⟨b,oo,none⟩) n c->a.eval i=.int k q->0<=q->q<n->(execOp a.eval o).run P w=.ok (.value (.pointer (some ⟨b,oo+q.toNat*(m+1),none⟩))) w:=fun b oo n c k q h h2 h3 h4=>by
  simp only[execOp,ho,h,h2,Instr.indexAt,asIntOf,Sem.run_bind,Sem.run_pure,run_underlying ht,Result.andThen_ok,h3,h4,and_self,if_true,run_sizeOf hm,kd]
 unfold bI at hv
 split at hv
 ·rename_i rows k q hb sY
  split at hv
  ·rename_i hq
   simp only[Option.bind_eq_some_iff]at hv
   obtain⟨cs,dr,hv⟩:=hv
   split at hv
   ·rename_i hlen
    simp at hv;subst hv
    rw[hb]at hr;rw[sY]at DT
    have dR:=(List.getElem?_eq_some_iff.1 dr).1
    obtain⟨A,c,h,h1,h2,h3⟩:=wR hr
    rcases h3 with h3|⟨b,oo,sz,vs,rfl,hD,hl,fl,hc,hi⟩
    ·subst h3;simp at dr
    have fa:sz=m+1:=by rw[<-hlen,hl cs (List.mem_of_getElem? dr)]
    refine⟨_,go b oo _ _ k q h (dp DT) hq (by omega),.eP _ _ (.dm cs b _ (vs q.toNat) hD (fl cs (List.mem_of_getElem? dr)) (fun j hj=>?_) (fun j a ha=>hi _ _ _ _ dr ha))⟩
    have:=hc q.toNat j dR (by rw[<-hl cs (List.mem_of_getElem? dr)];exact hj)
    rw[fa]at this
    rw[Nat.add_assoc];exact this
   ·simp at hv
  ·simp at hv
 ·rename_i kR off len k q hb sY
  split at hv
  ·rename_i hq
   simp only[Option.bind_eq_some_iff]at hv
   obtain⟨r,HK,hv⟩:=hv
   split at hv
   ·rename_i yu
    simp at hv;subst hv
    rw[hb]at hr;rw[sY]at DT
    obtain⟨oo,cap,B,h,hB,h1,h2,h3,h4,hk⟩:=iT hr
    obtain⟨B',dD,R,_,_⟩:=S.row _ _ HK
    rw[hB]at dD;injection dD with dD;subst dD
    replace R:=R.row hk
    have fa:B.sz=m+1:=R.sz.trans yu
    refine⟨_,go _ _ _ _ k q h (dp DT) hq.1 hq.2,?_⟩
    have CE:oo=off*B.sz:=by rcases h2 with h2|h2<;>omega
    have:oo+q.toNat*(m+1)=(off+q.toNat)*B.sz+0:=by rw[CE,<-fa,Nat.add_mul];rfl
    rw[this]
    exact .ptr _ _ _ _ hB hk
   ·simp at hv
  ·simp at hv
 ·simp at hv
theorem PM {x i:Operand} {x' i':O} {t e:TypeId} {m len:Nat} (E:cm P w D ι env a) (ho:o.op=.indexAddr t x i) (ht:P.underlying t=some (.array len e)) (hm:ei P e=some (m+1)) (hx:cO P x=some x') (hi:cO P i=some i')
  (hv:cK len (m+1) (da env x') (da env i')=some v):om P a o w D ι v:=by
 have hr:=dj E hx
 have DT:=dj E hi
 have go:∀b oo k (q:Int),a.eval x=.pointer (some ⟨b,oo,none⟩)->a.eval i=.int k q->0<=q->q<len->(execOp a.eval o).run P w=.ok (.value (.pointer (some ⟨b,oo+q.toNat*(m+1),none⟩))) w:=fun b oo k q h h2 h3 h4=>by
  simp only[execOp,ho,h,h2,Instr.indexAt,asIntOf,Sem.run_bind,Sem.run_pure,run_underlying ht,Instr.sureAddr,Result.andThen_ok,h3,h4,and_self,if_true,run_sizeOf hm,kd]
 unfold cK at hv
 split at hv
 ·rename_i kR r oo k q hb sY
  split at hv
  ·rename_i hq
   simp at hv;subst hv
   rw[hb]at hr;rw[sY]at DT
   obtain⟨B,h,hB,hk⟩:=iU hr
   refine⟨_,go _ _ k q h (dp DT) hq.1 hq.2,?_⟩
   rw[Nat.add_assoc]
   exact .ptr _ _ _ _ hB hk
  ·simp at hv
 ·rename_i cs k q hb sY
  split at hv
  ·rename_i hq
   simp at hv;subst hv
   rw[hb]at hr;rw[sY]at DT
   obtain⟨b,oo,vs,h,h1,h2,h3,h4⟩:=k7 hr
   refine⟨_,go _ _ k q h (dp DT) hq.1 hq.2,.eP _ _ (.dm _ _ _ (fun j=>vs (q.toNat*(m+1)+j)) h1 (fun a ha=>h2 a (List.mem_of_mem_drop ha)) (fun j hj=>?_) (fun j a ha=>h4 _ _ (by simpa using ha)))⟩
   rw[Nat.add_assoc]
   exact h3 _ (by simp at hj;omega)
  ·simp at hv
 ·simp at hv
theorem PO {x i:Operand} {x' i':O} {t:TypeId} (E:cm P w D ι env a) (ho:o.op=.index t x i) (ht:P.underlying t=some .string) (hx:cO P x=some x') (hi:cO P i=some i')
  (hv:cN (da env x') (da env i')=some v):om P a o w D ι v:=by
 have hr:=dj E hx
 have DT:=dj E hi
 unfold cN at hv
 split at hv
 ·rename_i s k q hb sY
  split at hv
  ·rename_i hq
   simp only[Option.map_eq_some_iff]at hv
   obtain⟨c,hc,rfl⟩:=hv
   rw[hb]at hr;rw[sY]at DT
   refine⟨_,?_,.eP _ _ (.int _ _)⟩
   simp only[execOp,ho,fD hr,dp DT,Instr.index,asIntOf,Sem.run_bind,Sem.run_pure,run_underlying ht,Result.andThen_ok,hq,if_true,hc]
  ·simp at hv
 ·simp at hv
theorem PN {x i:Operand} {x' i':O} {t e:TypeId} {ag:Bool} {len n:Nat} (E:cm P w D ι env a) (ho:o.op=.index t x i) (ht:P.underlying t=some (.array len e)) (uH:nO P e=some ag) (hn:ei P e=some n) (hx:cO P x=some x') (hi:cO P i=some i')
  (hv:cL ag len n (da env x') (da env i')=some v):om P a o w D ι v:=by
 have hr:=dj E hx
 have DT:=dj E hi
 unfold cL at hv
 split at hv
 ·rename_i cs k q hb sY
  split at hv
  ·rename_i hq
   rw[hb]at hr;rw[sY]at DT
   obtain⟨vs,f,h,n1,fl,f1,r1⟩:=iz hr
   have go:∀u,(Go.part e vs (q.toNat*n)).run P w=.ok u w->(execOp a.eval o).run P w=.ok (.value u) w:=fun u hu=>by
    simp only[execOp,ho,h,dp DT,Instr.index,asIntOf,Sem.run_bind,Sem.run_pure,run_underlying ht,Result.andThen_ok,hq,and_self,if_true,run_sizeOf hn,hu]
   unfold part at hv
   cases ag with
   |true=>
    simp only[if_true]at hv
    split at hv
    ·rename_i hl
     simp at hv;subst hv
     simp only[List.length_drop]at hl
     by_cases Ql:n=0
     ·subst Ql
      refine⟨_,go _ (pr uH hn),.agg _ _ (fun _=>undef) (by simp) (fun a ha=>by simp at ha) (fun j hj=>by simp at hj) (fun j a ha=>by simp at ha)⟩
     refine⟨_,go _ (pr uH hn),.agg _ _ (fun j=>f (q.toNat*n+j)) (by simp[n1];omega) (fun a ha=>fl a (List.mem_of_mem_drop (List.mem_of_mem_take ha))) (fun j hj=>?_) (fun j a ha=>?_)⟩
     ·simp at hj
      rw[Array.getElem?_extract,if_pos (by omega)];exact f1 _ (by omega)
     ·rw[List.getElem?_take]at ha
      split at ha
      ·exact r1 _ _ (by simpa using ha)
      ·simp at ha
    ·simp at hv
   |false=>
    simp only[Bool.false_eq_true,if_false]at hv
    have nU:cs[q.toNat*n]? =some v:=by simpa[List.head?_drop]using hv
    have dR:=(List.getElem?_eq_some_iff.1 nU).1
    exact⟨_,go _ (ml uH (f1 _ dR)),r1 _ _ nU⟩
  ·simp at hv
 ·simp at hv
theorem HH {x:Operand} {x':O} {i:Nat} (E:cm P w D ι env a) (ho:o.op=.extract x i) (hx:cO P x=some x') (hv:aL i (da env x')=some v):om P a o w D ι v:=by
 have hr:=dj E hx
 unfold aL at hv
 split at hv
 ·rename_i vs hb
  rw[hb]at hr
  obtain⟨us,f,h,h1,h2,h3⟩:=uN hr
  have dR:=(List.getElem?_eq_some_iff.1 hv).1
  exact⟨_,by simp only[execOp,ho,h,Instr.extract,h2 _ dR];rfl,h3 _ _ hv⟩
 ·simp at hv
theorem Sx {x:Operand} {x':O} {t:TypeId} {e:TypeId} {n:Nat} (E:cm P w D ι env a) (ho:o.op=.call {callee:=.builtin .len,args:= #[x],argTypes:= #[t]}) (ht:P.underlying t=some (.slice e)) (hx:cO P x=some x') (hv:dY (da env x')=some n):om P a o w D ι (.int .i64 n):=by
 have hr:=dj E hx
 have go:∀A c,a.eval x=.slice A n c->(execOp a.eval o).run P w=.ok (.value (.int .i64 n)) w:=fun A c h=>by
  simp only[execOp,ho,resolve,Sem.run_bind,Sem.run_pure,Result.andThen_ok,invoke,builtin,Array.map,h]
  simp[Builtin.len_,run_underlying ht,goInt,h]
 refine⟨.int .i64 n,?_,.eP _ _ (.int _ _)⟩
 unfold dY at hv
 split at hv<;>simp at hv<;>subst hv<;>rename_i hb<;>rw[hb]at hr
 ·exact go _ _ (iR hr)
 ·obtain⟨A,c,h,_⟩:=wR hr;exact go _ _ h
 ·obtain⟨oo,cap,B,h,_⟩:=iT hr;exact go _ _ h
theorem PR {x:Operand} {x':O} {t:TypeId} (E:cm P w D ι env a) (ho:o.op=.call {callee:=.builtin .len,args:= #[x],argTypes:= #[t]}) (ht:P.underlying t=some .string) (hx:cO P x=some x') (hv:cQ (da env x')=some v):om P a o w D ι v:=by
 have hr:=dj E hx
 unfold cQ at hv
 split at hv
 ·rename_i s hb
  simp at hv;subst hv
  rw[hb]at hr
  have h:=fD hr
  refine⟨_,?_,.eP _ _ (.int _ _)⟩
  simp only[execOp,ho,resolve,Sem.run_bind,Sem.run_pure,Result.andThen_ok,invoke,builtin,Array.map,h]
  simp[Builtin.len_,run_underlying ht,goInt,h]
 ·simp at hv
theorem nq {isS:Bool} {len cap h l:Nat} {lo hi:Option Operand} {Nw rh:Option O} (E:cm P w D ι env a) (j5:rI P lo=some Nw) (CI:rI P hi=some rh) (hh:dH len (rh.map (da env))=some h) (hl:dI h (Nw.map (da env))=some l) (hc:len<=cap):
  (Instr.sliceBounds isS len cap (lo.map a.eval) (hi.map a.eval) none).run P w=.ok (l,h,cap) w/\l<=h/\h<=len:=by
 have bound:∀(x:Operand) (y:O) (k:IntKind) (n:Int) (m:Nat) (c:BoundsCode),cO P x=some y->da env y=.int k n->0<=n->n<=m->(Instr.sliceBound (a.eval x) m c).run P w=.ok n.toNat w:=fun x y k n m c hx hy h0 h1=>by
  have hr:=dj E hx
  rw[hy]at hr
  simp only[Instr.sliceBound,dp hr,asIntOf,Sem.run_bind,Sem.run_pure,Result.andThen_ok,h0,h1,and_self,if_true]
 have H:h<=len/\((hi=none/\h=len)∨∃x,hi=some x/\∀c,(Instr.sliceBound (a.eval x) cap c).run P w=.ok h w):=by
  cases hi with
  |none=>
   simp[rI]at CI;subst CI
   simp[dH]at hh;subst hh
   exact⟨Nat.le_refl _,.inl ⟨rfl,rfl⟩⟩
  |some x=>
   simp only[rI,Option.map_eq_some_iff]at CI
   obtain⟨y,hy,rfl⟩:=CI
   simp only[Option.map_some,dH]at hh
   split at hh
   ·rename_i e;cases e
   ·rename_i k n e
    injection e with e
    split at hh
    ·rename_i hn
     simp at hh;subst hh
     exact⟨by omega,.inr ⟨x,rfl,fun c=>bound x y k n _ _ hy e hn.1 (by omega)⟩⟩
    ·simp at hh
   ·simp at hh
 have L:l<=h/\((lo=none/\l=0)∨∃x,lo=some x/\∀c,(Instr.sliceBound (a.eval x) h c).run P w=.ok l w):=by
  cases lo with
  |none=>
   simp[rI]at j5;subst j5
   simp[dI]at hl;subst hl
   exact⟨Nat.zero_le _,.inl ⟨rfl,rfl⟩⟩
  |some x=>
   simp only[rI,Option.map_eq_some_iff]at j5
   obtain⟨y,hy,rfl⟩:=j5
   simp only[Option.map_some,dI]at hl
   split at hl
   ·rename_i e;cases e
   ·rename_i k n e
    injection e with e
    split at hl
    ·rename_i hn
     simp at hl;subst hl
     exact⟨by omega,.inr ⟨x,rfl,fun c=>bound x y k n h _ hy e hn.1 hn.2⟩⟩
    ·simp at hl
   ·simp at hl
 refine⟨?_,L.1,H.1⟩
 unfold Instr.sliceBounds
 rcases H.2 with⟨rfl,rfl⟩|⟨x,rfl,hx⟩<;>rcases L.2 with⟨rfl,rfl⟩|⟨y,rfl,hy⟩<;>
  simp only[Option.map_none,Option.map_some,Sem.run_bind,Sem.run_pure,Result.andThen_ok, *]
theorem MY {x:Operand} {x':O} {lo hi:Option Operand} {Nw rh:Option O} {t e:TypeId} {m:Nat} (S:gz P hs D ι g w) (E:cm P w D ι env a) (ho:o.op=.slice t x lo hi none) (ht:P.underlying t=some (.slice e)) (hm:ei P e=some m) (hx:cO P x=some x') (j5:rI P lo=some Nw) (CI:rI P hi=some rh)
  (hv:bJ g m (da env x') (Nw.map (da env)) (rh.map (da env))=some v):om P a o w D ι v:=by
 have hr:=dj E hx
 have go:∀A len cap l h,a.eval x=.slice A len cap->(Instr.sliceBounds true len cap (lo.map a.eval) (hi.map a.eval) none).run P w=.ok (l,h,cap) w->(execOp a.eval o).run P w=.ok (.value (.slice (if cap=l then A else A.map (·.add (l*m))) (h-l) (cap-l))) w:=fun A len cap l h h1 h2=>by
  simp only[execOp,ho,h1,Instr.sliceAt,Instr.slice,Sem.run_bind,Sem.run_pure,run_underlying ht,Result.andThen_ok,Option.map_none,h2,run_sizeOf hm]
 unfold bJ at hv
 split at hv
 ·rename_i hb
  rw[hb]at hr
  simp only[Option.bind_eq_some_iff,Option.map_eq_some_iff]at hv
  obtain⟨h,hh,l,hl,rfl⟩:=hv
  obtain⟨q,q1,q2⟩:=nq (w:=w) (isS:=true) (cap:=0) E j5 CI hh hl (Nat.le_refl _)
  have h0:h=0:=by omega
  have l0:l=0:=by omega
  subst h0;subst l0
  refine⟨_,go _ _ _ _ _ (iR hr) q,?_⟩
  simp;exact .eP _ _ .bV
 ·rename_i rows hb
  rw[hb]at hr
  simp only[Option.bind_eq_some_iff,Option.map_eq_some_iff]at hv
  obtain⟨h,hh,l,hl,hv⟩:=hv
  split at hv
  ·rename_i dQ
   simp at hv;subst hv
   obtain⟨A,c,he,c1,c2,h3⟩:=wR hr
   obtain⟨q,q1,q2⟩:=nq (w:=w) (isS:=true) (cap:=c) E j5 CI hh hl c1
   refine⟨_,go _ _ _ _ _ he q,.eP _ _ ?_⟩
   have hlen:((rows.drop l).take (h-l)).length=h-l:=by simp;omega
   by_cases hz:h-l=0
   ·have:(rows.drop l).take (h-l)=[]:=by rw[hz];simp
    rw[this,hz]
    exact .AG _ _ (by omega)
   ·rcases h3 with h3|⟨b,oo,sz,vs,rfl,hD,KI,fl,hc,hi⟩
    ·subst h3;simp at q2;omega
    rw[if_neg (by omega)]
    simp only[Option.map_some,kd]
    have Bz:sz=m:=by
     have dR:l<rows.length:=by omega
     have:=dQ rows[l] (List.getElem_mem dR)
     rw[<-this,KI _ (List.getElem_mem dR)]
    subst Bz
    refine .sl _ b _ _ _ sz (fun i j=>vs (l+i) j) hlen (by omega) (by omega) hD (fun cs dr=>KI cs (List.mem_of_mem_drop (List.mem_of_mem_take dr))) (fun cs dr=>fl cs (List.mem_of_mem_drop (List.mem_of_mem_take dr))) (fun i j hi hj=>?_) (fun i j cs a dr ha=>?_)
    ·rw[<-hc (l+i) j (by omega) hj,Nat.add_mul]
     congr 2;omega
    ·rw[List.getElem?_take]at dr
     split at dr
     ·exact hi _ _ _ _ (by simpa using dr) ha
     ·simp at dr
  ·simp at hv
 ·rename_i kR off len hb
  rw[hb]at hr
  simp only[Option.bind_eq_some_iff,Option.map_eq_some_iff]at hv
  obtain⟨r,HK,h,hh,l,hl,hv⟩:=hv
  split at hv
  ·rename_i yu
   simp at hv;subst hv
   obtain⟨oo,cap,B,he,hB,h1,h2,h3,h4,hk⟩:=iT hr
   obtain⟨B',dD,R,_,_⟩:=S.row _ _ HK
   rw[hB]at dD;injection dD with dD;subst dD
   replace R:=R.row hk
   have fa:B.sz=m:=R.sz.trans yu
   obtain⟨q,q1,q2⟩:=nq (w:=w) (isS:=true) (cap:=cap) E j5 CI hh hl h1
   refine⟨_,go _ _ _ _ _ he q,?_⟩
   have e1:(off+l+(cap-l))*B.sz<=B.C:=by rw[show off+l+(cap-l)=off+cap by omega];exact h3
   by_cases nR:cap=l
   ·rw[if_pos nR]
    exact .own _ _ _ _ _ B hB hk (by omega) (.inl (by omega)) e1 (by omega)
   ·rw[if_neg nR]
    simp only[Option.map_some,kd]
    have CE:oo=off*B.sz:=by rcases h2 with h2|h2<;>omega
    exact .own _ _ _ _ _ B hB hk (by omega) (.inr (by rw[CE,fa,Nat.add_mul])) e1 (by omega)
  ·simp at hv
 ·simp at hv
theorem Kw {x:Operand} {x':O} {lo hi:Option Operand} {Nw rh:Option O} {t:TypeId} (E:cm P w D ι env a) (ho:o.op=.slice t x lo hi none) (ht:P.underlying t=some .string) (hx:cO P x=some x') (j5:rI P lo=some Nw) (CI:rI P hi=some rh)
  (hv:aW (da env x') (Nw.map (da env)) (rh.map (da env))=some v):om P a o w D ι v:=by
 have hr:=dj E hx
 unfold aW at hv
 split at hv
 ·rename_i s hb
  rw[hb]at hr
  simp only[Option.bind_eq_some_iff,Option.map_eq_some_iff]at hv
  obtain⟨h,hh,l,hl,rfl⟩:=hv
  obtain⟨q,_,_⟩:=nq (w:=w) (isS:=false) E j5 CI hh hl (Nat.le_refl _)
  refine⟨_,?_,.eP _ _ (.str _)⟩
  simp only[execOp,ho,fD hr,Instr.sliceAt,Instr.slice,Sem.run_bind,Sem.run_pure,run_underlying ht,Result.andThen_ok,Option.map_none,Option.isSome_none,Bool.false_eq_true,if_false,q]
 ·simp at hv
theorem El {xs:List Operand} {ys:List O} (E:cm P w D ι env a) (h:xs.mapM (cO P)=some ys):(xs.map a.eval).length=ys.length/\∀j y,ys[j]? =some y->dc P w D ι (da env y) ((xs.map a.eval).getD j undef):=by
 induction xs generalizing ys with
 |nil=>simp at h;subst h;simp
 |cons x r ih=>
  simp only[List.mapM_cons,Option.bind_eq_bind,Option.bind_eq_some_iff]at h
  obtain⟨c,hc,qd,dr,h⟩:=h
  simp at h;subst h
  obtain⟨h1,h2⟩:=ih dr
  refine⟨by simpa using h1,fun j d hd=>?_⟩
  cases j with
  |zero=>simp at hd ⊢;subst hd;exact dj E hc
  |succ j=>simp at hd ⊢;simpa using h2 j d hd
theorem PU {f:Nat} {first cZ:Array Operand} {AY:List O} (E:cm P w D ι env a) (ho:o.op=.makeFunc (.func f) first cZ) (hf:first= #[]) (hc:fQ P f=true) (hx:cZ.toList.mapM (cO P)=some AY):om P a o w D ι (.fn f (AY.map (da env))):=by
 subst hf
 obtain⟨h1,h2⟩:=El E hx
 refine⟨.func (.func f) #[] (cZ.map a.eval),by simp only[execOp,ho,Instr.makeFunc,Sem.run_bind,Sem.run_pure,Result.andThen_ok];simp,.fn _ _ _ (fun j=>(cZ.toList.map a.eval).getD j undef) hc (by simpa using h1) (fun j hj=>?_) (fun j x Qv=>?_)⟩
 ·simp at hj h1
  have:j<cZ.size:=by omega
  simp[this]
 ·simp only[List.getElem?_map,Option.map_eq_some_iff]at Qv
  obtain⟨y,hy,rfl⟩:=Qv
  exact h2 j y hy
theorem PV {f:Nat} {first cZ:Array Operand} {AY:List O} (E:cm P w D ι env a) (ho:o.op=.makeFunc (.func f) first cZ) (hf:cZ= #[]) (hc:fQ P f=true) (hx:first.toList.mapM (cO P)=some AY):om P a o w D ι (.tT f (AY.map (da env))):=by
 subst hf
 obtain⟨h1,h2⟩:=El E hx
 refine⟨.func (.func f) (first.map a.eval) #[],by simp only[execOp,ho,Instr.makeFunc,Sem.run_bind,Sem.run_pure,Result.andThen_ok];simp,.tT _ _ _ (fun j=>(first.toList.map a.eval).getD j undef) hc (by simpa using h1) (fun j hj=>?_) (fun j x Qv=>?_)⟩
 ·simp at hj h1
  have:j<first.size:=by omega
  simp[this]
 ·simp only[List.getElem?_map,Option.map_eq_some_iff]at Qv
  obtain⟨y,hy,rfl⟩:=Qv
  exact h2 j y hy
end
end Go.Proofs.YtgoelphibofcmaaGreat.V

namespace Go.Proofs.YtgoelphibofcmaaGreat.V
open Go.RowKit
variable {P:Program} {w w':World} {D D':Nat->Prop} {ι ι':Names}
def Mk (P:Program) (a:Act) (o:Oper) (w:World) (D:Nat->Prop) (ι:Names) (id:Id) (v:AV) (r:Row):Prop:=
 ∃u cells T,(execOp a.eval o).run P w=.ok (.value u) (w.alloc (.cells cells T))/\r.w=true/\r.rows.length*r.sz<=cells.size/\(∀cs∈r.rows,cs.length=r.sz)/\(∀cs∈r.rows,∀a∈cs,a.cell=true)/\
  (∀i j cs a,r.rows[i]? =some cs->cs[j]? =some a->∃x,cells[i*r.sz+j]? =some x/\dc P w D ι a x)/\∀ι':Names,ι' id=some ⟨w.heap.size,r.sz,cells.size,none⟩->dc P w D ι' v u
section
variable {g:Rows} {hs:Nat} {env:Env} {a:Act} {o:Oper} {id:Id} {v:AV}
theorem kL {vs:List Value} {cs:List K} (h:vs.mapM GM=some cs):fh P w D ι (cs.map K.av) vs.toArray:=by
 obtain⟨h1,h2⟩:=r6 h
 refine⟨by simp[h1],fun j a ha=>?_⟩
 simp only[List.getElem?_map,Option.map_eq_some_iff]at ha
 obtain⟨c,hc,rfl⟩:=ha
 exact⟨c.val,by simpa using h2 j c hc,wP c⟩
theorem jS {t:TypeId} {z:List K} (h:jF P t=some z):∃i v,P.info? t=some i/\i.zero=some v/\v.cells.size=i.size/\v.cells.toList.mapM GM=some z/\z.length=i.size:=by
 unfold jF at h
 split at h
 ·rename_i i hi
  split at h
  ·rename_i v hv
   split at h
   ·rename_i hs
    exact⟨i,v,hi,hv,hs,h,by rw[(r6 h).1];simpa using hs⟩
   ·simp at h
  ·simp at h
 ·simp at h
theorem FJ {cs:List AV} {cells:Array Value} (h:fh P w D ι cs cells):∀i j c a,[cs][i]? =some c->c[j]? =some a->∃x,cells[i*cs.length+j]? =some x/\dc P w D ι a x:=by
 intro i j c a hi hj
 cases i with
 |zero=>simp at hi;subst hi;simpa using h.2 j a hj
 |succ i=>simp at hi
theorem R4 {t:TypeId} {z:List K} (ho:o.op=.alloc t) (hz:jF P t=some z):Mk P a o w D ι id (.ptr id 0 0) ⟨true,z.length,[z.map K.av]⟩:=by
 obtain⟨i,v,hi,hv,hs,hm,hl⟩:=jS hz
 have hk:=kL (P:=P) (w:=w) (D:=D) (ι:=ι) hm
 refine⟨.pointer (some ⟨w.heap.size,0,none⟩),v.cells,t,?_,rfl,?_,?_,?_,?_,?_⟩
 ·simp only[execOp,ho,Instr.alloc,zeroValue,typeInfo,Sem.run_bind]
  simp[hi,hv,newVar,newRow]
 ·simp[hl,hs]
 ·intro cs dr;simp at dr;subst dr;simp
 ·intro cs dr x hx;simp at dr;subst dr
  obtain⟨c,_,rfl⟩:=List.mem_map.1 hx;exact c.mL
 ·have:=FJ hk;simpa using this
 ·intro ι' hι
  have:=dc.ptr (P:=P) (w:=w) (D:=D) (ι:=ι') id 0 0 _ hι rfl
  simpa using this
theorem qW {x:AV} {u:Value} (h:dc P w D ι x u) (hc:x.cells.all AV.cell=true):fh P w D ι x.cells u.cells:=by
 obtain⟨h1,f,h2,h3⟩:=h.cells hc
 exact⟨h1,fun j a ha=>⟨f j,h2 j (List.getElem?_eq_some_iff.1 ha).1,h3 j a ha⟩⟩
theorem R0 {t:TypeId} {x:Operand} {x':O} {cs:List AV} (E:cm P w D ι env a) (ho:o.op=.box t x) (hx:cO P x=some x') (hb:cH (da env x')=some cs):Mk P a o w D ι id (.ptr id 0 0) ⟨true,cs.length,[cs]⟩:=by
 have hr:=dj E hx
 unfold cH at hb
 split at hb
 ·rename_i dQ
  simp at hb;subst hb
  have hk:=qW hr dQ
  refine⟨.pointer (some ⟨w.heap.size,0,none⟩),(a.eval x).cells,t,?_,rfl,?_,?_,?_,?_,?_⟩
  ·simp only[execOp,ho,Instr.box,Sem.run_bind]
   simp[newVar,newRow]
  ·simp[hk.1]
  ·intro cs dr;simp at dr;subst dr;rfl
  ·intro cs dr y hy;simp at dr;subst dr
   exact List.all_eq_true.1 dQ y hy
  ·exact FJ hk
  ·intro ι' hι
   have:=dc.ptr (P:=P) (w:=w) (D:=D) (ι:=ι') id 0 0 _ hι rfl
   simpa using this
 ·simp at hb
theorem foldl_set:∀(vs:List Value) (n off:Nat) (cells:Array Value),off+n+vs.length<=cells.size->((vs.zipIdx n).foldl (fun cs (x:Value×Nat)=>cs.setIfInBounds (off+x.2) x.1) cells).size=cells.size/\
  ∀k,((vs.zipIdx n).foldl (fun cs (x:Value×Nat)=>cs.setIfInBounds (off+x.2) x.1) cells)[k]? =if off+n<=k/\k<off+n+vs.length then vs[k-(off+n)]? else cells[k]?
 |[],n,off,cells,_=>⟨rfl,fun k=>by simp;intro h1 h2;omega⟩
 |v::r,n,off,cells,h=>by
  simp only[List.length_cons]at h
  obtain⟨h1,h2⟩:=foldl_set r (n+1) off (cells.setIfInBounds (off+n) v) (by simp;omega)
  simp only[List.zipIdx_cons,List.foldl_cons]
  refine⟨by rw[h1];simp,fun k=>?_⟩
  rw[h2 k]
  simp only[List.length_cons]
  by_cases hk:k=off+n
  ·subst hk
   rw[if_neg (by omega),if_pos (by omega)]
   simp[show off+n<cells.size by omega]
  ·by_cases s4:off+n<=k/\k<off+n+(r.length+1)
   ·rw[if_pos (by omega),if_pos s4]
    have:k-(off+n)=(k-(off+(n+1)))+1:=by omega
    rw[this,List.getElem?_cons_succ]
   ·rw[if_neg (by omega),if_neg s4,Array.getElem?_setIfInBounds_ne (by omega)]
theorem vI (place:Nat->Option (Nat×Nat)):∀(ps:List (Nat×Value)) (qs:List (Nat×Nat×AV)) (cells:Array Value) (cs res:List AV),fh P w D ι cs cells->(∀a∈cs,a.cell=true)->ps.length=qs.length->
  (∀(k:Nat) i u o' n x,ps[k]? =some (i,u)->qs[k]? =some (o',n,x)->place i=some (o',n)/\dc P w D ι x u)->cC cs qs=some res->∃jo,Instr.fill place cells ps=some jo/\fh P w D ι res jo/\(∀a∈res,a.cell=true)/\res.length=cs.length:=by
 intro ps
 induction ps with
 |nil=>
  intro qs cells cs res hR hf hl _ hv
  cases qs with
  |nil=>simp[cC]at hv;subst hv;exact⟨cells,rfl,hR,hf,rfl⟩
  |cons q r=>simp at hl
 |cons p ps ih=>
  intro qs cells cs res hR hf hl hp hv
  cases qs with
  |nil=>simp at hl
  |cons q qs=>
   obtain⟨i,u⟩:=p
   obtain⟨oo,n,x⟩:=q
   obtain⟨mE,hr⟩:=hp 0 i u oo n x rfl rfl
   unfold cC at hv
   split at hv
   ·rename_i hc
    obtain⟨c1,c2,c3⟩:=hc
    have hk:=qW hr c3
    have Nt:u.cells.size=n:=by rw[hk.1,c1]
    have dr:cells.size=cs.length:=hR.1
    unfold Instr.fill
    simp only[mE]
    rw[if_neg (by rw[Nt,dr];simp;omega)]
    obtain⟨s1,s2⟩:=foldl_set u.cells.toList 0 oo cells (by simp;omega)
    have e0:(u.cells.zipIdx.foldl (fun cs (x:Value×Nat)=>cs.setIfInBounds (oo+x.2) x.1) cells)=(u.cells.toList.zipIdx 0).foldl (fun cs (x:Value×Nat)=>cs.setIfInBounds (oo+x.2) x.1) cells:=by
     rw[<-Array.foldl_toList];simp
    have um:=ih qs (u.cells.zipIdx.foldl (fun cs (x:Value×Nat)=>cs.setIfInBounds (oo+x.2) x.1) cells) (cs.take oo++x.cells++cs.drop (oo+n)) res ?_ ?_ (by simpa using hl) (fun k i u o' n x h1 h2=>hp (k+1) i u o' n x (by simpa using h1) (by simpa using h2)) hv
    ·obtain⟨jo,h1,h2,h3,h4⟩:=um
     refine⟨jo,h1,h2,h3,?_⟩
     rw[h4];simp;omega
    ·rw[e0]
     refine⟨by rw[s1,dr];simp;omega,fun j a ha=>?_⟩
     rw[s2 j]
     simp only[Nat.add_zero,Array.length_toList]
     by_cases hj:oo<=j/\j<oo+u.cells.size
     ·rw[if_pos hj]
      rw[List.append_assoc,List.getElem?_append_right (by simp;omega),List.getElem?_append_left (by simp;omega)]at ha
      simp only[List.length_take]at ha
      rw[show min oo cs.length=oo by omega]at ha
      simpa using hk.2 _ _ ha
     ·rw[if_neg hj]
      by_cases OJ:j<oo
      ·rw[List.append_assoc,List.getElem?_append_left (by simp;omega),List.getElem?_take,if_pos OJ]at ha
       exact hR.2 _ _ ha
      ·rw[List.getElem?_append_right (by simp;omega)]at ha
       simp only[List.length_append,List.length_take,List.getElem?_drop]at ha
       rw[show oo+n+(j-(min oo cs.length+x.cells.length))=j by omega]at ha
       exact hR.2 _ _ ha
    ·intro b hb
     rcases List.mem_append.1 hb with hb|hb
     ·rcases List.mem_append.1 hb with hb|hb
      ·exact hf b (List.mem_of_mem_take hb)
      ·exact List.all_eq_true.1 c3 b hb
     ·exact hf b (List.mem_of_mem_drop hb)
   ·simp at hv
theorem xC {fs:List Field} (h:∀f∈fs,(P.info? f.type).isSome=true):∃zX,fs.mapM (fun f=>(P.info? f.type).map fun i=>(f.offset,i.size))=some zX/\∀(i:Nat) (f:Field) (n:Nat),fs[i]? =some f->ei P f.type=some n->zX[i]? =some (f.offset,n):=by
 induction fs with
 |nil=>exact⟨[],rfl,fun i f n h=>by simp at h⟩
 |cons f r ih=>
  obtain⟨q,h1,h2⟩:=ih (fun x hx=>h x (List.mem_cons_of_mem _ hx))
  obtain⟨i,hi⟩:=Option.isSome_iff_exists.1 (h f (by simp))
  refine⟨(f.offset,i.size)::q,by simp[hi,h1],fun k x n hk hn=>?_⟩
  cases k with
  |zero=>simp at hk;subst hk;simp[ei,hi]at hn;subst hn;rfl
  |succ k=>simp at hk ⊢;exact h2 k x n hk hn
theorem qp {ps:List (Nat×Operand)} {l:List (Nat×O)} (E:cm P w D ι env a) (h:ps.mapM (fun(x:Nat×Operand)=>(cO P x.2).map (x.1,·))=some l):l.length=ps.length/\∀(k i:Nat) (y:O),l[k]? =some (i,y)->∃x,ps[k]? =some (i,x)/\cO P x=some y:=by
 induction ps generalizing l with
 |nil=>simp at h;subst h;simp
 |cons p r ih=>
  simp only[List.mapM_cons,Option.bind_eq_bind,Option.bind_eq_some_iff]at h
  obtain⟨c,hc,qd,dr,h⟩:=h
  simp at h;subst h
  obtain⟨h1,h2⟩:=ih dr
  simp only[Option.map_eq_some_iff]at hc
  obtain⟨y,hy,rfl⟩:=hc
  refine⟨by simp[h1],fun k i z hk=>?_⟩
  cases k with
  |zero=>simp at hk;obtain⟨rfl,rfl⟩:=hk;exact⟨p.2,rfl,hy⟩
  |succ k=>simp at hk ⊢;exact h2 k i z hk
theorem C9 {fs:Array Field} {l:List (Nat×O)} {q:List (Nat×Nat×O)} (h:sO P fs l=some q):q.length=l.length/\∀(k oo n:Nat) (y:O),q[k]? =some (oo,n,y)->∃(i:Nat) (f:Field),l[k]? =some (i,y)/\fs[i]? =some f/\f.offset=oo/\ei P f.type=some n:=by
 induction l generalizing q with
 |nil=>simp[sO]at h;subst h;simp
 |cons p r ih=>
  obtain⟨i,x⟩:=p
  unfold sO at h
  split at h
  ·rename_i f hf
   split at h
   ·rename_i n hn
    simp only[Option.map_eq_some_iff]at h
    obtain⟨q',LG,rfl⟩:=h
    obtain⟨h1,h2⟩:=ih LG
    refine⟨by simp[h1],fun k oo m y hk=>?_⟩
    cases k with
    |zero=>simp at hk;obtain⟨rfl,rfl,rfl⟩:=hk;exact⟨i,f,rfl,hf,rfl,hn⟩
    |succ k=>simp only[List.getElem?_cons_succ]at hk ⊢;exact h2 k oo m y hk
   ·simp at h
  ·simp at h
theorem fh.agg {xs:List AV} {vs:Array Value} (h:fh P w D ι xs vs) (hf:∀a∈xs,a.cell=true):dc P w D ι (.agg xs) (.agg vs):=
 .agg xs vs (fun j=>vs.getD j undef) h.1 hf (fun j hj=>by
  have:j<vs.size:=by rw[h.1];exact hj
  simp[this]) (fun j a ha=>by
  obtain⟨u,h1,h2⟩:=h.2 j a ha
  simpa[Array.getD_eq_getD_getElem?,h1]using h2)
theorem MT {t:TypeId} {ps:Array (Nat×Operand)} {fs:Array Field} {z:List K} {l:List (Nat×O)} {q:List (Nat×Nat×O)} {cs:List AV} (E:cm P w D ι env a) (ho:o.op=.build t ps) (ht:P.underlying t=some (.struct fs)) (hz:jF P t=some z) (hl:sR P ps=some l)
  (rQ:∀f∈fs.toList,(P.info? f.type).isSome=true) (hq:sO P fs l=some q) (hv:cC (z.map K.av) (q.map fun(o,n,x)=>(o,n,da env x))=some cs):om P a o w D ι (.agg cs):=by
 obtain⟨it,zv,hi,qL,hs,hm,Fy⟩:=jS hz
 obtain⟨zX,mE,U6⟩:=xC rQ
 have hk:=kL (P:=P) (w:=w) (D:=D) (ι:=ι) hm
 obtain⟨n1,r1⟩:=qp E hl
 obtain⟨n2,r2⟩:=C9 hq
 obtain⟨jo,h1,h2,h3,_⟩:=vI (P:=P) (w:=w) (D:=D) (ι:=ι) (zX.toArray[·]?) (ps.toList.map fun(i,x)=>(i,a.eval x)) (q.map fun(o,n,x)=>(o,n,da env x)) zv.cells _ cs (by simpa using hk)
  (fun b hb=>by obtain⟨c,_,rfl⟩:=List.mem_map.1 hb;exact c.mL) (by simp[n2,n1]) (fun k i u o' n x rj s4=>by
   simp only[List.getElem?_map,Option.map_eq_some_iff]at rj s4
   obtain⟨⟨i',x'⟩,hp,e1⟩:=rj
   obtain⟨⟨o2,n',y⟩,LG,e2⟩:=s4
   simp only[Prod.mk.injEq]at e1 e2
   obtain⟨rfl,rfl⟩:=e1
   obtain⟨rfl,rfl,rfl⟩:=e2
   obtain⟨i2,f,I2,hf,rfl,hn⟩:=r2 _ _ _ _ LG
   obtain⟨x2,AE,hc⟩:=r1 _ _ _ I2
   rw[hp]at AE
   simp only[Option.some.injEq,Prod.mk.injEq]at AE
   obtain⟨rfl,rfl⟩:=AE
   exact⟨by simpa using U6 _ _ _ (by simpa using hf) hn,dj E hc⟩) hv
 refine⟨.agg jo,?_,h2.agg h3⟩
 have hb:P.built t ((ps.map fun(i,x)=>(i,a.eval x)).toList)=some jo:=by
  unfold Program.built
  simp only[hi,ht,qL,mE]
  simpa using h1
 simp only[execOp,ho,Sem.run_bind,run_build w t _ _ hb,Result.andThen_ok,Sem.run_pure]
theorem Kv {t e:TypeId} {len n:Nat} {ps:Array (Nat×Operand)} {z:List K} {l:List (Nat×O)} {cs:List AV} (E:cm P w D ι env a) (ho:o.op=.build t ps) (ht:P.underlying t=some (.array len e)) (hz:jF P t=some z) (hl:sR P ps=some l) (hn:ei P e=some n)
  (hv:cC (z.map K.av) ((l.map fun(x:Nat×O)=>(x.1*n,n,x.2)).map fun(o,n,x)=>(o,n,da env x))=some cs):om P a o w D ι (.agg cs):=by
 obtain⟨it,zv,hi,qL,hs,hm,Fy⟩:=jS hz
 have hk:=kL (P:=P) (w:=w) (D:=D) (ι:=ι) hm
 obtain⟨n1,r1⟩:=qp E hl
 obtain⟨ie,GA,fa⟩:∃ie,P.info? e=some ie/\ie.size=n:=by simpa[ei]using hn
 obtain⟨jo,h1,h2,h3,_⟩:=vI (P:=P) (w:=w) (D:=D) (ι:=ι) (fun i=>some (i*ie.size,ie.size)) (ps.toList.map fun(i,x)=>(i,a.eval x)) ((l.map fun(x:Nat×O)=>(x.1*n,n,x.2)).map fun(o,n,x)=>(o,n,da env x)) zv.cells _ cs (by simpa using hk)
  (fun b hb=>by obtain⟨c,_,rfl⟩:=List.mem_map.1 hb;exact c.mL) (by simp[n1]) (fun k i u o' n' x rj s4=>by
   simp only[List.getElem?_map,Option.map_eq_some_iff]at rj s4
   obtain⟨⟨i',x'⟩,hp,e1⟩:=rj
   obtain⟨⟨o2,n2,y⟩,⟨⟨i2,y2⟩,I2,e3⟩,e2⟩:=s4
   simp only[Prod.mk.injEq]at e1 e2 e3
   obtain⟨rfl,rfl⟩:=e1
   obtain⟨rfl,rfl,rfl⟩:=e2
   obtain⟨rfl,rfl,rfl⟩:=e3
   obtain⟨x2,AE,hc⟩:=r1 _ _ _ I2
   rw[hp]at AE
   simp only[Option.some.injEq,Prod.mk.injEq]at AE
   obtain⟨rfl,rfl⟩:=AE
   exact⟨by rw[fa],dj E hc⟩) hv
 refine⟨.agg jo,?_,h2.agg h3⟩
 have hb:P.built t ((ps.map fun(i,x)=>(i,a.eval x)).toList)=some jo:=by
  unfold Program.built
  simp only[hi,ht,qL,GA]
  simpa using h1
 simp only[execOp,ho,Sem.run_bind,run_build w t _ _ hb,Result.andThen_ok,Sem.run_pure]
theorem vH:∀(vs:List AV) (sz i:Nat) (rs:List (List AV)) (cs:List AV),0<sz->cs.length=(i+vs.length)*sz->rowsOf sz vs=some rs->
  cC cs ((vs.zipIdx i).map fun(v,j)=>(j*sz,sz,v))=some (cs.take (i*sz)++rs.flatten)/\rs.length=vs.length/\(∀c∈rs,c.length=sz)/\∀c∈rs,∀x∈c,x.cell=true
 |[],sz,i,rs,cs,_,hl,h=>by
  simp[rowsOf]at h;subst h
  simp at hl
  simp[cC,List.take_of_length_le (show cs.length<=i*sz by omega)]
 |v::r,sz,i,rs,cs,fa,hl,h=>by
  simp only[rowsOf,Option.bind_eq_some_iff,Option.map_eq_some_iff]at h
  obtain⟨c,hc,rs',yu,rfl⟩:=h
  unfold rowOf at hc
  split at hc
  ·rename_i zz
   simp at hc;subst hc
   obtain⟨pS,DD⟩:=zz
   simp only[List.length_cons]at hl
   have hmul:(i+(r.length+1))*sz=i*sz+sz+r.length*sz:=by rw[Nat.add_mul,Nat.add_mul];omega
   have ih:=vH r sz (i+1) rs' (cs.take (i*sz)++v.cells++cs.drop (i*sz+sz)) fa (by
    simp[pS];rw[Nat.add_mul,Nat.add_mul];omega) yu
   refine⟨?_,by simp[ih.2.1],?_,?_⟩
   ·simp only[List.zipIdx_cons,List.map_cons,cC]
    rw[if_pos ⟨pS,by omega,DD⟩,ih.1]
    congr 1
    rw[List.flatten_cons,<-List.append_assoc]
    congr 1
    rw[Nat.add_mul,Nat.one_mul,List.take_append_of_le_length (by simp[pS];omega)]
    rw[List.take_of_length_le (by simp[pS];omega)]
   ·intro c' kg;rcases List.mem_cons.1 kg with rfl|kg
    ·exact pS
    ·exact ih.2.2.1 c' kg
   ·intro c' kg;rcases List.mem_cons.1 kg with rfl|kg
    ·exact List.all_eq_true.1 DD
    ·exact ih.2.2.2 c' kg
  ·simp at hc
theorem flat_get {α:Type} {oE:List (List α)} {sz:Nat} (h:∀cs∈oE,cs.length=sz) {i j:Nat} {cs:List α} {a:α} (hi:oE[i]? =some cs) (hj:cs[j]? =some a):oE.flatten[i*sz+j]? =some a:=by
 induction oE generalizing i with
 |nil=>simp at hi
 |cons c r ih=>
  have hc:c.length=sz:=h c (by simp)
  cases i with
  |zero=>
   simp at hi;subst hi
   have dR:=(List.getElem?_eq_some_iff.1 hj).1
   rw[List.flatten_cons,List.getElem?_append_left (by omega)];simpa using hj
  |succ i=>
   rw[List.flatten_cons,List.getElem?_append_right (by rw[hc,Nat.succ_mul];omega)]
   have:(i+1)*sz+j-c.length=i*sz+j:=by rw[hc,Nat.succ_mul];omega
   rw[this]
   exact ih (fun cs dr=>h cs (List.mem_cons_of_mem _ dr)) (by simpa using hi)
theorem IF {α:Type} {oE:List (List α)} {sz:Nat} (h:∀cs∈oE,cs.length=sz):oE.flatten.length=oE.length*sz:=by
 induction oE with
 |nil=>simp
 |cons c r ih=>
  rw[List.flatten_cons,List.length_append,h c (by simp),ih (fun cs dr=>h cs (List.mem_cons_of_mem _ dr)),List.length_cons,Nat.succ_mul];omega
theorem pc {zv:Value} {z:List K} {n:Nat} (hm:zv.cells.toList.mapM GM=some z) (lu:0<z.length):∀k,k<n->∃c,z[k % z.length]? =some c/\((Array.range n).map (zv.cells[· % zv.cells.size]!))[k]? =some c.val:=by
 intro k hk
 obtain⟨h1,h2⟩:=r6 hm
 have fa:zv.cells.size=z.length:=by simpa using h1.symm
 have dR:k % z.length<z.length:=Nat.mod_lt _ lu
 refine⟨z[k % z.length],List.getElem?_eq_getElem dR,?_⟩
 have h3:=h2 _ _ (List.getElem?_eq_getElem dR)
 simp only[Array.getElem?_toList]at h3
 have By:k % z.length<zv.cells.size:=by rw[fa];exact dR
 rw[Array.getElem?_map,Array.getElem?_range,if_pos hk]
 simp only[Option.map_some]
 rw[fa,getElem!_pos zv.cells (k % z.length) By]
 rw[Array.getElem?_eq_getElem By]at h3
 exact h3
theorem Js {t e:TypeId} {len sz:Nat} {ps:Array (Nat×Operand)} {z:List K} {l:List (Nat×O)} {rs:List (List AV)} (E:cm P w D ι env a) (ho:o.op=.buildSlice t len ps) (ht:P.underlying t=some (.slice e)) (fa:ei P e=some (sz+1)) (hz:jF P e=some z)
  (hl:sR P ps=some l) (LJ:len*(sz+1)<=4096) (RF:l.map (·.1)=List.range len) (hv:rowsOf (sz+1) (l.map fun x=>da env x.2)=some rs):Mk P a o w D ι id (.own id 0 len) ⟨true,sz+1,rs⟩:=by
 obtain⟨it,zv,hi,qL,hs,hm,Fy⟩:=jS hz
 have jB:it.size=sz+1:=by simpa[ei,hi]using fa
 obtain⟨n1,r1⟩:=qp E hl
 have Ly:l.length=len:=by have:=congrArg List.length RF;simpa using this
 by_cases h0:len=0
 ·subst h0
  have Qj:l=[]:=List.length_eq_zero_iff.1 Ly
  subst Qj
  simp[rowsOf]at hv;subst hv
  have Ti:ps= #[]:=by
   apply Array.ext';apply List.eq_nil_of_length_eq_zero;rw[<-n1];rfl
  subst Ti
  refine⟨.slice (some ⟨w.heap.size,0,none⟩) 0 0, #[],e,?_,rfl,by simp,by simp,by simp,fun i j cs x hi=>by simp at hi,fun ι' hι=>?_⟩
  ·simp[execOp,ho,Instr.buildSlice,run_underlying ht,sizeOf,typeInfo,hi,Instr.fill,newRow,Array.range_zero']
  ·exact .own _ 0 0 0 0 _ hι rfl (Nat.le_refl _) (.inl rfl) (by simp) (by simp[maxLen])
 ·have xn:fh P w D ι ((List.range (len*(sz+1))).map fun k=>(z.getD (k % z.length) .bV).av) ((Array.range (len*(sz+1))).map (zv.cells[· % zv.cells.size]!)):=by
   refine⟨by simp,fun j x hx=>?_⟩
   simp only[List.getElem?_map,Option.map_eq_some_iff]at hx
   obtain⟨k,hk,rfl⟩:=hx
   have kH:=(List.getElem?_eq_some_iff.1 hk).1
   simp at kH
   rw[List.getElem?_range kH]at hk
   injection hk with hk
   subst hk
   obtain⟨c,hc,Ri⟩:=pc hm (by rw[Fy,jB];omega) j kH
   exact⟨c.val,Ri,by rw[List.getD_eq_getElem?_getD,hc];exact wP c⟩
  obtain⟨f1,f2,f3,f4⟩:=vH (l.map fun x=>da env x.2) (sz+1) 0 rs ((List.range (len*(sz+1))).map fun k=>(z.getD (k % z.length) .bV).av) (by omega) (by simp[Ly]) hv
  obtain⟨jo,h1,h2,h3,h4⟩:=vI (P:=P) (w:=w) (D:=D) (ι:=ι) (fun i=>some (i*it.size,it.size)) (ps.toList.map fun(i,x)=>(i,a.eval x)) _ _ _ _ xn
   (fun b hb=>by obtain⟨c,_,rfl⟩:=List.mem_map.1 hb;exact K.mL _) (by simp[n1]) (fun k i u o' n x rj s4=>by
   simp only[List.getElem?_map,Option.map_eq_some_iff]at rj s4
   obtain⟨⟨i',x'⟩,hp,e1⟩:=rj
   obtain⟨⟨v2,j2⟩,LG,e2⟩:=s4
   simp only[Prod.mk.injEq]at e1 e2
   obtain⟨rfl,rfl⟩:=e1
   obtain⟨rfl,rfl,rfl⟩:=e2
   rw[List.getElem?_zipIdx]at LG
   simp only[List.getElem?_map,Option.map_map,Option.map_eq_some_iff,Function.comp_apply,Prod.mk.injEq,Nat.zero_add]at LG
   obtain⟨⟨i2,y⟩,I2,rfl,rfl⟩:=LG
   obtain⟨x2,AE,hc⟩:=r1 _ _ _ I2
   rw[hp]at AE
   simp only[Option.some.injEq,Prod.mk.injEq]at AE
   obtain⟨rfl,rfl⟩:=AE
   have yl:(l.map (·.1))[k]? =some i':=by rw[List.getElem?_map,I2];rfl
   have kH:=(List.getElem?_eq_some_iff.1 yl).1
   rw[RF]at yl
   simp at kH
   rw[List.getElem?_range (by omega)]at yl
   injection yl with yl
   subst yl
   exact⟨by rw[jB],dj E hc⟩) f1
  simp only[Nat.zero_mul,List.take_zero,List.nil_append,List.length_map]at h2 h3 h4 f2
  have dr:jo.size=len*(sz+1):=by rw[h2.1,h4];simp
  refine⟨.slice (some ⟨w.heap.size,0,none⟩) len len,jo,e,?_,rfl,?_,f3,f4,fun i j cs x rh hj=>h2.2 _ _ (flat_get f3 rh hj),fun ι' hι=>?_⟩
  ·have gE:=run_buildSlice (P:=P) w t e len (ps.map fun(i,x)=>(i,a.eval x)) jo it zv ht hi qL (by rw[jB];omega) (by rw[jB];exact Nat.mul_ne_zero h0 (by omega)) (by rw[<-jB]at h1;simpa using h1)
   simp only[execOp,ho,Sem.run_bind,gE,Result.andThen_ok,Sem.run_pure]
  ·dsimp only;rw[f2,Ly,dr];exact Nat.le_refl _
  ·refine .own _ 0 len 0 len _ hι rfl (Nat.le_refl _) (.inr (by simp)) ?_ (by simp only[maxLen];have:=Nat.le_mul_of_pos_right len (show 0<sz+1 by omega);omega)
   dsimp only;rw[dr];simp
theorem GZ {t e:TypeId} {it:TypeInfo} {m:Nat} {z:List K} {l c:Operand} {l' c':O} {n:Nat} {r:Row} (E:cm P w D ι env a) (ho:o.op=.makeSlice t l c) (ht:P.underlying t=some (.slice e)) (fa:ei P e=some (m+1)) (hz:jF P e=some z) (Qh:P.info? e=some it) (hby:it.bytes<=32768)
  (hl:cO P l=some l') (hc:cO P c=some c') (hv:gT z (da env l') (da env c')=some (n,r)):Mk P a o w D ι id (.own id 0 n) r:=by
 obtain⟨it',zv,hi,qL,hs,hm,Fy⟩:=jS hz
 rw[Qh]at hi;injection hi with hi;subst hi
 have jB:it.size=m+1:=by simpa[ei,Qh]using fa
 unfold gT at hv
 split at hv
 ·rename_i k1 ln k2 cn e1 e2
  split at hv
  ·rename_i hb
   obtain⟨b1,b2,b3⟩:=hb
   simp at hv
   obtain⟨rfl,rfl⟩:=hv
   have r1:=dp (e1▸dj E hl)
   have r2:=dp (e2▸dj E hc)
   unfold dz at b3
   have Nd:(it.bytes:Int)*cn<=281474976710656:=by
    have h1:(it.bytes:Int)<=32768:=by omega
    have h2:(it.bytes:Int)*cn<=32768*16777216:=Int.mul_le_mul h1 (by omega) (by omega) (by omega)
    omega
   have gE:=run_make (P:=P) w t e it zv ht Qh qL k1 k2 ln cn b1 b2 Nd (by omega)
   have km:∀k,k<cn.toNat*it.size->∃x,z[k % z.length]? =some x/\(madeCells zv.cells (cn.toNat*it.size))[k]? =some x.val:=fun k hk=>pc hm (by rw[Fy,jB];omega) k hk
   refine⟨.slice (some ⟨w.heap.size,0,none⟩) ln.toNat cn.toNat,madeCells zv.cells (cn.toNat*it.size),e,by simp only[execOp,ho,r1,r2,Sem.run_bind,gE,Result.andThen_ok,Sem.run_pure],rfl,?_,?_,?_,?_,fun ι' hι=>?_⟩
   ·simp only[List.length_replicate,size_madeCells,Fy]
    exact Nat.mul_le_mul_right _ (by omega)
   ·intro cs dr
    have:=List.eq_of_mem_replicate dr
    subst this;simp
   ·intro cs dr x hx
    have:=List.eq_of_mem_replicate dr
    subst this
    obtain⟨c,_,rfl⟩:=List.mem_map.1 hx;exact c.mL
   ·intro i j cs x rh hj
    have nG:=(List.getElem?_eq_some_iff.1 rh).1
    have:=List.eq_of_mem_replicate (List.mem_of_getElem? rh)
    subst this
    simp only[List.length_replicate]at nG
    simp only[List.getElem?_map,Option.map_eq_some_iff]at hj
    obtain⟨q,hq,rfl⟩:=hj
    have gN:=(List.getElem?_eq_some_iff.1 hq).1
    dsimp only
    obtain⟨x,hx,AE⟩:=km (i*z.length+j) (by
     rw[<-Fy]
     calc i*z.length+j<i*z.length+z.length:=by omega
      _=(i+1)*z.length:=by rw[Nat.add_mul,Nat.one_mul]
      _<=cn.toNat*z.length:=Nat.mul_le_mul_right _ (by omega))
    rw[Nat.mul_comm i,Nat.mul_add_mod,Nat.mod_eq_of_lt gN,hq]at hx
    injection hx with hx;subst hx
    exact⟨_,by rw[Nat.mul_comm i]at AE ⊢;exact AE,wP q⟩
   ·refine .own _ 0 _ 0 _ _ hι rfl (by omega) (.inr (by simp)) ?_ (by simp only[maxLen];omega)
    dsimp only;rw[size_madeCells,Fy];simp
  ·simp at hv
 ·simp at hv
end
end Go.Proofs.YtgoelphibofcmaaGreat.V

namespace Go.Proofs.YtgoelphibofcmaaGreat.V
open Go.RowKit
variable {P:Program} {w w':World} {D D':Nat->Prop} {ι ι':Names}
def EX (P:Program) (k:TypeId) (m:MK):Prop:=
 (∃s,m=⟨false,[s]⟩/\fj P k=some s)∨
 (∃fs ts,m=⟨true,ts⟩/\P.underlying k=some (.struct fs)/\eG P 4 0 fs.toList=some ts/\P.stoodInHeld k=false/\∀f∈fs.toList,(fj P f.type).isSome=true)
theorem rH {t:TypeId} {m:MK} {z:K} (h:sQ P t=some (m,z)):∃k e i zv,P.underlying t=some (.map k e)/\P.info? e=some i/\i.zero=some zv/\GM zv=some z/\EX P k m:=by
 unfold sQ at h
 split at h
 ·rename_i k e ht
  split at h
  ·rename_i zv s h1 h2 h3
   simp only[Option.map_eq_some_iff,Prod.mk.injEq]at h
   obtain⟨z',hz,rfl,rfl⟩:=h
   simp only[Option.bind_eq_some_iff]at h2
   obtain⟨i,hi,qL⟩:=h2
   exact⟨k,e,i,zv,ht,hi,qL,hz,.inl ⟨s,rfl,h3⟩⟩
  ·rename_i zv fs h1 h2 h3 h4
   split at h
   ·rename_i ts z' xG hz
    split at h
    ·rename_i hc
     simp only[Option.some.injEq,Prod.mk.injEq]at h
     obtain⟨rfl,rfl⟩:=h
     simp only[Option.bind_eq_some_iff]at h2
     obtain⟨i,hi,qL⟩:=h2
     simp only[Bool.not_eq_true',List.all_eq_true]at hc
     exact⟨k,e,i,zv,ht,hi,qL,hz,.inr ⟨fs,ts,rfl,h4,xG,hc.1,hc.2⟩⟩
    ·cases h
   ·cases h
  ·cases h
 ·cases h
theorem wU {t:TypeId} {s:TS} (ht:fj P t=some s) (em:Bool) (n:Nat) (v:Value):(Instr.checkKey em (n+1) t v).run P w=.ok () w:=by
 unfold Instr.checkKey
 cases s with
 |tB=>simp[run_underlying (pw ht)]
 |tS=>simp[run_underlying (pC ht)]
 |tI=>
  obtain⟨q,hq⟩:=pz ht
  simp[run_underlying hq]
theorem wV (em:Bool) (n:Nat) (vs:Array Value):∀(d:Nat) (fs:List Field) (off:Nat) (ts:List TS),eG P (d+1) off fs=some ts->(∀f∈fs,(fj P f.type).isSome=true)->off+ts.length<=vs.size->
  Sem.run P (forIn fs PUnit.unit fun f (_:PUnit)=>if f.name≠ "_" then do
    let x <-Go.part f.type vs f.offset
    Instr.checkKey em (n+1) f.type x
    pure (ForInStep.yield PUnit.unit)
   else pure (ForInStep.yield PUnit.unit)) w=Result.ok PUnit.unit w
 |d,[],off,ts,_,_,_=>by simp
 |d,f::r,off,ts,hf,hs,hl=>by
  rw[yd]at hf
  split at hf
  ·rename_i hcond
   obtain⟨ho,gY⟩:=hcond
   split at hf
   ·rename_i s Qs
    split at hf
    ·rename_i uH
     simp only[Option.map_eq_some_iff]at hf
     obtain⟨KQ,hr,rfl⟩:=hf
     simp only[List.length_cons]at hl
     have ih:=wV em n vs d r (off+1) KQ hr (fun f hf=>hs f (List.mem_cons_of_mem _ hf)) (by omega)
     have hu:vs[off]? =some vs[off]:=by simp
     simp only[List.forIn_cons,Sem.run_bind,if_pos gY,ho,ml uH hu,Result.andThen_ok,wU Qs,Sem.run_pure]
     exact ih
    ·cases hf
   ·rename_i hn
    have:=hs f (by simp)
    rw[hn]at this;cases this
  ·cases hf
theorem Ev {k:TypeId} {m:MK} (hk:EX P k m) (em:Bool) (key:AV) (u:Value) (uH:key.isAgg=m.ka) (hlen:key.cells.length=m.ks) (hr:dc P w D ι key u):(Instr.checkKey em 10000 k u).run P w=.ok () w:=by
 rcases hk with⟨s,rfl,hs⟩|⟨fs,ts,rfl,rQ,xG,dL,dQ⟩
 ·exact wU hs em 9999 u
 ·cases key<;>simp[AV.isAgg]at uH
  rename_i cs
  obtain⟨vs,f,rfl,h1,_⟩:=iz hr
  unfold Instr.checkKey
  simp only[Sem.run_bind,run_underlying rQ,Result.andThen_ok]
  rw[<-Array.forIn_toList]
  have h:=wV (P:=P) (w:=w) em 9998 vs 3 fs.toList 0 ts xG dQ (by simp[AV.cells,MK.ks]at hlen;omega)
  rw[h]
  rfl
theorem Ic (a b:ByteArray):(a==b)=decide (a=b):=by
 by_cases h:a=b
 ·subst h;rw[decide_eq_true rfl]
  obtain⟨x⟩:=a
  show(x==x)=true
  simp
 ·rw[decide_eq_false h,Bool.eq_false_iff]
  intro hc
  obtain⟨x⟩:=a
  obtain⟨y⟩:=b
  exact h (by rw[show x=y by simpa using(show(x==y)=true from hc)])
theorem J0 {t:TypeId} {s:TS} {x y:AV} {u v:Value} {b:Bool} {d:TypeDesc} (ht:fj P t=some s) (hd:P.underlying t=some d) (he:fY s x y=some b) (hx:dc P w D ι x u) (hy:dc P w D ι y v):Instr.sameNow d u v=some b:=by
 unfold fY at he
 split at he
 ·rename_i k n k' n'
  split at he
  ·rename_i hk
   subst hk
   simp at he;subst he
   obtain⟨q,hq⟩:=pz ht
   rw[hd]at hq;injection hq with hq;subst hq
   rw[dp hx,dp hy]
   simp[Instr.sameNow]
   rfl
  ·cases he
 ·simp at he;subst he
  have hq:=pw ht
  rw[hd]at hq;injection hq with hq;subst hq
  rw[e7 hx,e7 hy];rfl
 ·rename_i a c
  simp at he;subst he
  have hq:=pC ht
  rw[hd]at hq;injection hq with hq;subst hq
  rw[fD hx,fD hy]
  simp only[Instr.sameNow,Ic]
 ·cases he
def Found (es:List MapEntry) (i:Nat) (r:Option Nat) (res:Option (Nat×Value)):Prop:=(r=none/\res=none)∨∃j e,r=some (i+j)/\es[j]? =some e/\res=some (i+j,e.val)
theorem vK {e:MapEntry} {es:List MapEntry} {i:Nat} {r:Option Nat} {res:Option (Nat×Value)} (h:Found es (i+1) r res):Found (e::es) i r res:=by
 rcases h with h|⟨j,x,h1,h2,h3⟩
 ·exact .inl h
 ·exact .inr ⟨j+1,x,by rw[h1];congr 1;omega,by simpa using h2,by rw[h3];congr 2;omega⟩
theorem Bf {t:TypeId} {s:TS} {d:TypeDesc} {x:AV} {u:Value} (ht:fj P t=some s) (hd:P.underlying t=some d) (hx:dc P w D ι x u):∀(rows:List (List AV)) (es:List MapEntry) (i:Nat) (r:Option Nat),es.length=rows.length->
  (∀(j:Nat) (cs:List AV),rows[j]? =some cs->∃(e:MapEntry) (kv:AV),es[j]? =some e/\cs.head? =some kv/\dc P w D ι kv e.key)->gi ⟨false,[s]⟩ [x] rows i=some r->∃res,Instr.findNow d u es i=some res/\Found es i r res
 |[],[],i,r,_,_,h=>by
  simp[gi]at h;subst h
  exact⟨none,rfl,.inl ⟨rfl,rfl⟩⟩
 |[],e::es,i,r,hl,_,h=>by simp at hl
 |cs::rows,[],i,r,hl,_,h=>by simp at hl
 |cs::rows,e::es,i,r,hl,hr,h=>by
  obtain⟨e',kv,uI,hk,gZ⟩:=hr 0 cs rfl
  simp at uI;subst uI
  have dr:cs.take (MK.ks ⟨false,[s]⟩)=[kv]:=by
   cases cs with
   |nil=>simp at hk
   |cons a l=>simp at hk;subst hk;simp[MK.ks]
  unfold gi at h
  rw[dr]at h
  cases hq:fY s x kv with
  |none=>simp[eU,hq]at h
  |some b=>
   have hs:=J0 ht hd hq hx gZ
   cases b with
   |true=>
    simp[eU,hq]at h;subst h
    exact⟨some (i,e.val),by simp[Instr.findNow,hs],.inr ⟨0,e,rfl,rfl,rfl⟩⟩
   |false=>
    simp[eU,hq]at h
    obtain⟨res,h1,h2⟩:=Bf ht hd hx rows es (i+1) r (by simpa using hl) (fun j cs hj=>hr (j+1) cs (by simpa using hj)) h
    exact⟨res,by simp[Instr.findNow,hs,h1],vK h2⟩
theorem qg {t:TypeId} {fs:Array Field} {ts:List TS} {xs ys:List AV} {vs us:Array Value} {b:Bool} (rQ:P.underlying t=some (.struct fs)) (dL:P.stoodInHeld t=false) (xG:eG P 4 0 fs.toList=some ts) (hx:fh P w D ι xs vs) (hy:fh P w D ι ys us) (hv:eU ts xs ys=some b):(Op.equal t (.agg vs) (.agg us)).run P w=.ok b w:=by
 obtain⟨l1,l2⟩:=rO hv
 have q:=sf (w:=w) 4 fs.toList 0 ts xG 9998 (by omega) xs ys vs us b hx hy (by simpa[List.take_of_length_le,l1,l2]using hv)
 have Nf:P.fieldsOf t=fs:=by simp[Program.fieldsOf,rQ]
 unfold Op.equal
 rw[show Op.maxDepth=9999+1 from rfl,run_equalIn_struct w 9999 t _ _ (by rw[Nf];exact rQ) dL,Nf,q]
theorem sb {cs:List AV} {v:Value} (h:dc P w D ι (.agg cs) v):∃vs,v=.agg vs/\fh P w D ι cs vs:=by
 obtain⟨vs,f,rfl,n1,_,f1,r1⟩:=iz h
 exact⟨vs,rfl,n1,fun j a ha=>⟨f j,f1 j (List.getElem?_eq_some_iff.1 ha).1,r1 j a ha⟩⟩
theorem Be {t:TypeId} {fs:Array Field} {ts:List TS} {xs:List AV} {vs:Array Value} (rQ:P.underlying t=some (.struct fs)) (dL:P.stoodInHeld t=false) (xG:eG P 4 0 fs.toList=some ts) (hx:fh P w D ι xs vs):∀(rows:List (List AV)) (es:List MapEntry) (i:Nat) (r:Option Nat),es.length=rows.length->
  (∀(j:Nat) (cs:List AV),rows[j]? =some cs->∃e:MapEntry,es[j]? =some e/\dc P w D ι (.agg (cs.take ts.length)) e.key)->gi ⟨true,ts⟩ xs rows i=some r->∃res,(Instr.findAsking t (.agg vs) es i).run P w=.ok res w/\Found es i r res
 |[],[],i,r,_,_,h=>by
  simp[gi]at h;subst h
  exact⟨none,by simp[Instr.findAsking],.inl ⟨rfl,rfl⟩⟩
 |[],e::es,i,r,hl,_,h=>by simp at hl
 |cs::rows,[],i,r,hl,_,h=>by simp at hl
 |cs::rows,e::es,i,r,hl,hr,h=>by
  obtain⟨e',uI,gZ⟩:=hr 0 cs rfl
  simp at uI;subst uI
  obtain⟨us,hk,hy⟩:=sb gZ
  unfold gi at h
  simp only[MK.ks]at h
  split at h
  ·rename_i hq
   simp at h;subst h
   have q:=qg rQ dL xG hx hy hq
   exact⟨some (i,e.val),by simp[Instr.findAsking,hk,q],.inr ⟨0,e,rfl,rfl,rfl⟩⟩
  ·rename_i hq
   have q:=qg rQ dL xG hx hy hq
   obtain⟨res,h1,h2⟩:=Be rQ dL xG hx rows es (i+1) r (by simpa using hl) (fun j cs hj=>hr (j+1) cs (by simpa using hj)) h
   exact⟨res,by simp[Instr.findAsking,hk,q,h1],vK h2⟩
  ·cases h
theorem vC {a:AV} (h:a.isAgg=false):a.cells=[a]:=by cases a<;>simp_all [AV.isAgg,AV.cells]
theorem vJ {k:TypeId} {m:MK} {B:sK} {r:Row} (hk:EX P k m) {key:AV} {u:Value} (hr:dc P w D ι key u) {es:Array MapEntry} (fa:es.size=r.rows.length)
  (hM:∀(i:Nat) (cs:List AV),r.rows[i]? =some cs->∃(e:MapEntry) (kv vv:AV),es[i]? =some e/\part m.ka m.ks cs=some kv/\cs[m.ks]? =some vv/\dc P w D ι kv e.key/\dc P w D ι vv e.val) {fi:Option Nat} (h:fV m key r.rows=some fi):
  (∀em,(Instr.checkKey em 10000 k u).run P w=.ok () w)/\∃res,(Instr.findKey k u es.toList).run P w=.ok res w/\Found es.toList 0 fi res:=by
 unfold fV at h
 split at h
 ·rename_i hc
  obtain⟨c1,c2,c3⟩:=hc
  refine⟨fun em=>Ev hk em key u c1 c2 hr,?_⟩
  rcases hk with⟨s,rfl,hs⟩|⟨fs,ts,rfl,rQ,xG,dL,dQ⟩
  ·rw[vC c1]at h
   have hd:∃d,P.underlying k=some d:=by
    cases s with
    |tB=>exact⟨_,pw hs⟩
    |tS=>exact⟨_,pC hs⟩
    |tI=>obtain⟨q,hq⟩:=pz hs;exact⟨_,hq⟩
   obtain⟨d,hd⟩:=hd
   obtain⟨res,h1,h2⟩:=Bf hs hd hr r.rows es.toList 0 fi (by simpa using fa) (fun j cs hj=>by
    obtain⟨e,kv,vv,q1,q2,_,q4,_⟩:=hM j cs hj
    exact⟨e,kv,by simpa using q1,by simpa[part]using q2,q4⟩) h
   exact⟨res,by simp[Instr.findKey,run_underlying hd,h1],h2⟩
  ·cases key<;>simp[AV.isAgg]at c1
   rename_i cs
   obtain⟨vs,rfl,hL⟩:=sb hr
   obtain⟨res,h1,h2⟩:=Be rQ dL xG hL r.rows es.toList 0 fi (by simpa using fa) (fun j cs hj=>by
    obtain⟨e,kv,vv,q1,q2,_,q4,_⟩:=hM j cs hj
    unfold part at q2
    simp only[if_true]at q2
    split at q2
    ·simp only[Option.some.injEq]at q2;subst q2
     exact⟨e,by simpa using q1,q4⟩
    ·cases q2) h
   exact⟨res,(run_findKey_eq w (by simp[rQ]) _ _).trans h1,h2⟩
 ·cases h
section
variable {g:Rows} {hs:Nat} {env:Env} {a:Act} {o:Oper} {id:Id} {v:AV}
theorem zP {m:MK} {x:AV} {u:Value} {p:Id×Row} (S:gz P hs D ι g w) (hr:dc P w D ι x u) (h:dM g m x=some p):∃B,u=.map (some B.b)/\g p.1=some p.2/\ι p.1=some B/\B.k=some (.map m)/\M1 P w D ι B m p.2:=by
 unfold dM at h
 split at h
 ·rename_i i m'
  split at h
  ·rename_i hm
   subst hm
   simp only[Option.map_eq_some_iff]at h
   obtain⟨r,hg,rfl⟩:=h
   obtain⟨B,rfl,hB,hk⟩:=FK hr
   obtain⟨B',dD,R,_⟩:=S.row i r hg
   rw[hB]at dD;injection dD with dD;subst dD
   exact⟨B,rfl,hg,hB,hk,(R.map _ hk).2⟩
  ·cases h
 ·cases h
theorem PT {t:TypeId} {x k:Operand} {ok:Bool} {m:MK} {z:K} {x' k':O} {mr:Option Row} (S:gz P hs D ι g w) (E:cm P w D ι env a) (ho:o.op=.lookup t x k ok) (hc:sQ P t=some (m,z)) (hx:cO P x=some x') (hk:cO P k=some k')
  (hv:bw (.look m ok z) [da env x',da env k'] g id=some (v,mr)):mr=none/\om P a o w D ι v:=by
 obtain⟨kt,e,i,zv,ht,hi,qL,S9,hK⟩:=rH hc
 simp only[bw,Option.bind_eq_some_iff,Option.map_eq_some_iff,Prod.mk.injEq]at hv
 obtain⟨p,hp,fi,Ax,y,hy,rfl,rfl⟩:=hv
 obtain⟨B,hu,hg,hB,uG,es,clock,hb,fa,hlen,hM⟩:=zP S (dj E hx) hp
 obtain⟨KD,res,hf,hF⟩:=vJ (B:=B) hK (dj E hk) fa hM Ax
 have key:∃val,(match res with|some (_,v)=>(v,true)|none=>(zv,false))=(val,fi.isSome)/\dc P w D ι y val:=by
  rcases hF with⟨rfl,rfl⟩|⟨j,en,rfl,he,rfl⟩
  ·simp only[dU,Option.some.injEq]at hy;subst hy
   refine⟨zv,rfl,?_⟩
   rw[zG S9];exact wP z
  ·simp only[dU,Option.bind_eq_some_iff,Nat.zero_add]at hy
   obtain⟨cs,dr,hy⟩:=hy
   obtain⟨e',kv,vv,q1,_,q3,_,q5⟩:=hM _ cs dr
   rw[hy]at q3;injection q3 with q3;subst q3
   have:e'=en:=by
    have h1:es.toList[j]? =some e':=by simpa using q1
    rw[he]at h1;injection h1 with h1;exact h1.symm
   subst this
   exact⟨_,rfl,q5⟩
 obtain⟨val,s5,jH⟩:=key
 have eZ:(getObj B.b).run P w=.ok (.map es clock) w:=MapKept.run_getObj_map hb
 have hz:(zeroValue e).run P w=.ok zv w:=by simp[zeroValue,typeInfo,hi,qL]
 refine⟨rfl,if ok then .tuple #[val,.bool fi.isSome]else val,?_,?_⟩
 ·simp only[execOp,ho,hu,Instr.lookup,Sem.run_bind,run_underlying ht,Result.andThen_ok,eZ,Sem.run_pure,KD,hf]
  rcases hF with⟨rfl,rfl⟩|⟨j,en,rfl,he,rfl⟩
  ·simp only[Prod.mk.injEq]at s5
   simp[hz,s5.1]
  ·simp only[Prod.mk.injEq]at s5
   simp[s5.1]
 ·cases ok with
  |false=>exact jH
  |true=>
   refine .iC _ _ (fun j=>if j=0 then val else .bool fi.isSome) rfl (fun j hj=>?_) (fun j b hj=>?_)
   ·have:j=0∨j=1:=by simp at hj;omega
    rcases this with rfl|rfl<;>rfl
   ·match j,hj with
    |0,hj=>simp at hj;subst hj;exact jH
    |1,hj=>simp at hj;subst hj;exact .eP _ _ (.bool _)
    |j+2,hj=>simp at hj
theorem PW {t:TypeId} {x:Operand} {m:MK} {z:K} {x':O} {mr:Option Row} (S:gz P hs D ι g w) (E:cm P w D ι env a) (ho:o.op=.call {callee:=.builtin .len,args:= #[x],argTypes:= #[t]}) (hc:sQ P t=some (m,z)) (hx:cO P x=some x')
  (hv:bw (.len m) [da env x'] g id=some (v,mr)):mr=none/\om P a o w D ι v:=by
 obtain⟨kt,e,i,zv,ht,hi,qL,S9,hK⟩:=rH hc
 simp only[bw,Option.map_eq_some_iff,Prod.mk.injEq]at hv
 obtain⟨p,hp,rfl,rfl⟩:=hv
 obtain⟨B,hu,hg,hB,uG,es,clock,hb,fa,hlen,hM⟩:=zP S (dj E hx) hp
 have eZ:(getObj B.b).run P w=.ok (.map es clock) w:=MapKept.run_getObj_map hb
 refine⟨rfl,.int .i64 (es.size:Int),?_,by rw[fa];exact .eP _ _ (.int _ _)⟩
 simp only[execOp,ho,resolve,Sem.run_bind,Sem.run_pure,Result.andThen_ok,invoke,builtin,Array.map,hu]
 simp[Builtin.len_,run_underlying ht,goInt,hu,eZ]
def MkM (P:Program) (a:Act) (o:Oper) (w:World) (id:Id) (v:AV) (r:Row):Prop:=
 ∃m,(execOp a.eval o).run P w=.ok (.value (.map (some w.heap.size))) (w.alloc (.map #[] 0))/\v=.map id m/\r=⟨true,m.lT,[]⟩
theorem R3 {t:TypeId} {m:MK} (ho:o.op=.makeMap t none):MkM P a o w id (.map id m) ⟨true,m.lT,[]⟩:=by
 refine⟨m,?_,rfl,rfl⟩
 simp[execOp,ho,Instr.makeMap,go_sem]
def MkC (P:Program) (a:Act) (o:Oper) (w:World) (id:Id) (v:AV) (r:Row):Prop:=
 ∃n,(execOp a.eval o).run P w=.ok (.value (.chan (some w.heap.size))) (w.alloc (.chan n #[] false 0 0 false))/\v=.rK id/\r=⟨true,qx+n,[]⟩
theorem Pf {t e:TypeId} {x:Operand} {x':O} {dir:ChanDir} {i:TypeInfo} {n:Nat} (E:cm P w D ι env a) (ho:o.op=.makeChan t x) (ht:P.underlying t=some (.chan dir e)) (hi:P.info? e=some i) (hb:i.bytes<=32768) (hx:cO P x=some x') (hn:cR (da env x')=some n):MkC P a o w id (.rK id) ⟨true,qx+n,[]⟩:=by
 refine⟨n,?_,rfl,rfl⟩
 have hr:=dj E hx
 unfold cR at hn
 split at hn
 ·rename_i k m hm
  rw[hm]at hr
  split at hn
  ·rename_i hc
   simp only[Option.some.injEq]at hn
   subst hn
   have Nl:((m.toNat:Nat):Int)=m:=by omega
   have dR:(i.bytes:Int)*(m.toNat:Nat)<=281474976710544:=by
    have h1:i.bytes*m.toNat<=32768*1048576:=Nat.mul_le_mul hb (by omega)
    have h2:((i.bytes*m.toNat:Nat):Int)<=281474976710544:=by omega
    rwa [Int.natCast_mul]at h2
   have h:=Conc.run_makeChan (P:=P) (w:=w) ht hi k m.toNat (by omega) dR
   rw[Nl]at h
   simp only[execOp,ho,dp hr,Sem.run_bind,h,Result.andThen_ok,Sem.run_pure]
  ·cases hn
 ·cases hn
theorem zi {x:AV} {u:Value} {i:Id} {r:Row} (S:gz P hs D ι g w) (hr:dc P w D ι x u) (hx:x=.rK i) (hg:g i=some r):∃B c,u=.chan (some B.b)/\ι i=some B/\B.k=some (.chan c)/\r.sz=qx+c/\HS P w D ι B c r:=by
 subst hx
 obtain⟨B,c,rfl,hB,hk⟩:=Mw hr
 obtain⟨B',dD,R,_⟩:=S.row i r hg
 rw[hB]at dD;injection dD with dD;subst dD
 exact⟨B,c,rfl,hB,hk,R.chan c hk⟩
theorem PQ {t e:TypeId} {dir:ChanDir} {x:Operand} {x':O} (S:gz P hs D ι g w) (E:cm P w D ι env a) (ho:o.op=.call {callee:=.builtin .len,args:= #[x],argTypes:= #[t]}) (ht:P.underlying t=some (.chan dir e)) (hx:cO P x=some x') (hv:cP g (da env x')=some v):om P a o w D ι v:=by
 have hr:=dj E hx
 unfold cP at hv
 split at hv
 ·rename_i i he
  simp only[Option.map_eq_some_iff]at hv
  obtain⟨r,hg,rfl⟩:=hv
  obtain⟨B,c,hu,hB,hk,fa,buf,s,q,hb,KC,_⟩:=zi S hr he hg
  have eZ:(getObj B.b).run P w=.ok (.chan c buf false s q false) w:=by simp[getObj,Sem.run,hb]
  refine⟨.int .i64 (buf.size:Int),?_,by rw[KC];exact .eP _ _ (.int _ _)⟩
  simp only[execOp,ho,resolve,Sem.run_bind,Sem.run_pure,Result.andThen_ok,invoke,builtin,Array.map,hu]
  simp[Builtin.len_,run_underlying ht,goInt,hu,eZ]
 ·cases hv
end
end Go.Proofs.YtgoelphibofcmaaGreat.V

namespace Go.Proofs.YtgoelphibofcmaaGreat.V
open Go.RowKit
variable {P:Program} {w w':World} {D D':Nat->Prop} {ι ι':Names}
def KV (P:Program) (a:Act) (o:Oper) (w:World) (D:Nat->Prop) (ι:Names) (id:Id) (v:AV):Option Row->Prop
 |none=>om P a o w D ι v
 |some r=>Mk P a o w D ι id v r∨MkM P a o w id v r∨MkC P a o w id v r
section
variable {g:Rows} {hs:Nat} {env:Env} {a:Act} {o:Oper} {id:Id} {v:AV}
theorem ly {x:Option AV} {mr:Option Row} (h:x.map (·,(none:Option Row))=some (v,mr)) (H:x=some v->om P a o w D ι v):KV P a o w D ι id v mr:=by
 cases x with
 |none=>simp at h
 |some y=>simp at h;obtain⟨rfl,rfl⟩:=h;exact H rfl
theorem Sb {neg:Bool} {t yt:TypeId} {x y:Operand} {vo:gC} {mr:Option Row} (ho:o.op=.binOp (if neg then .neq else .eql) t x y yt) (hc:sP P neg t x y=some vo) (hq:eK vo (da env) g id=some (v,mr)) (E:cm P w D ι env a):KV P a o w D ι id v mr:=by
 unfold sP at hc
 split at hc
 ·split at hc
  ·rename_i e ht
   simp only[Option.map_eq_some_iff]at hc
   obtain⟨x',hx,rfl⟩:=hc
   simp only[eK,ea,Bool.false_eq_true,if_false,Option.map_eq_some_iff,Prod.mk.injEq]at hq
   obtain⟨b,hb,rfl,rfl⟩:=hq
   exact PL E ho ht hx hb
  ·simp at hc
 ·split at hc
  ·rename_i ht
   simp only[Option.map_eq_some_iff]at hc
   obtain⟨x',hx,rfl⟩:=hc
   simp only[eK,ea,if_true,Option.map_eq_some_iff,Prod.mk.injEq]at hq
   obtain⟨b,hb,rfl,rfl⟩:=hq
   exact PK E ho ht hx hb
  ·simp at hc
 ·split at hc
  ·rename_i ht
   simp only[Option.map_eq_some_iff]at hc
   obtain⟨x',hx,rfl⟩:=hc
   simp only[eK,Option.map_eq_some_iff,Prod.mk.injEq]at hq
   obtain⟨b,hb,rfl,rfl⟩:=hq
   exact Sv E ho ht hx hb
  ·simp at hc
 ·split at hc
  ·rename_i s hs
   simp only[Option.bind_eq_bind,Option.bind_eq_some_iff,Option.pure_def,Option.some.injEq]at hc
   obtain⟨x',hx,y',hy,rfl⟩:=hc
   simp only[eK,Option.map_eq_some_iff,Prod.mk.injEq]at hq
   obtain⟨b,hb,rfl,rfl⟩:=hq
   have BE:fj P t=some s:=by
    unfold TK at hs
    split at hs
    ·rename_i s' h;simp at hs;subst hs;exact h
    ·split at hs
     ·split at hs
      ·simp at hs
      ·simp at hs
     ·simp at hs
   exact Sw E ho BE hx hy hb
  ·rename_i ts hs
   simp only[Option.bind_eq_bind,Option.bind_eq_some_iff,Option.pure_def,Option.some.injEq]at hc
   obtain⟨x',hx,y',hy,rfl⟩:=hc
   simp only[eK]at hq
   split at hq
   ·rename_i xs ys h1 h2
    simp only[Option.map_eq_some_iff,Prod.mk.injEq]at hq
    obtain⟨b,hb,rfl,rfl⟩:=hq
    unfold TK at hs
    split at hs
    ·simp at hs
    ·split at hs
     ·rename_i fs rQ
      split at hs
      ·rename_i hg
       simp only[Option.map_eq_some_iff,TB.ag.injEq]at hs
       obtain⟨KQ,xG,rfl⟩:=hs
       simp only[Bool.and_eq_true,Bool.not_eq_true']at hg
       exact Su E ho rQ hg.1 hg.2 xG hx hy h1 h2 hb
      ·simp at hs
     ·simp at hs
   ·simp at hq
  ·simp at hc
theorem Pp {c:Call} {vo:gC} {mr:Option Row} (ho:o.op=.call c) (hc:nC P c=some vo) (hq:eK vo (da env) g id=some (v,mr)) (S:gz P hs D ι g w) (E:cm P w D ι env a):KV P a o w D ι id v mr:=by
 unfold nC at hc
 split at hc
 ·rename_i kq
  split at hc
  ·rename_i x t h1 h2
   have hce:c={callee:=.builtin .len,args:= #[x],argTypes:= #[t]}:=by
    obtain⟨a,b,c⟩:=c
    simp only at h1 h2 kq
    subst kq
    congr
    ·exact Array.ext' h1
    ·exact Array.ext' h2
   rw[hce]at ho
   split at hc
   ·rename_i e ht
    simp only[Option.map_eq_some_iff]at hc
    obtain⟨x',hx,rfl⟩:=hc
    simp only[eK,Option.map_eq_some_iff,Prod.mk.injEq]at hq
    obtain⟨n,hn,rfl,rfl⟩:=hq
    exact Sx E ho ht hx hn
   ·rename_i ht
    simp only[Option.map_eq_some_iff]at hc
    obtain⟨x',hx,rfl⟩:=hc
    exact ly hq fun h=>PR E ho ht hx h
   ·split at hc
    ·rename_i m z x' hm hx
     simp only[Option.some.injEq]at hc
     subst hc
     obtain⟨rfl,h⟩:=PW (id:=id) S E ho hm hx hq
     exact h
    ·cases hc
   ·rename_i ht
    simp only[Option.map_eq_some_iff]at hc
    obtain⟨x',hx,rfl⟩:=hc
    exact ly hq fun h=>PQ S E ho ht hx h
   ·simp at hc
  ·simp at hc
 ·split at hc
  ·split at hc
   ·split at hc
    ·split at hc
     ·simp only[Option.bind_eq_bind,Option.bind_eq_some_iff,Option.pure_def,Option.some.injEq]at hc
      obtain⟨x',hx,y',hy,rfl⟩:=hc
      simp[eK]at hq
     ·simp at hc
    ·simp at hc
   ·simp at hc
  ·simp at hc
 ·split at hc
  ·split at hc
   ·split at hc
    ·simp only[Option.map_eq_some_iff]at hc
     obtain⟨x',hx,rfl⟩:=hc
     simp[eK]at hq
    ·simp at hc
   ·simp at hc
  ·simp at hc
 ·split at hc
  ·simp only[Option.map_eq_some_iff]at hc
   obtain⟨x',hx,rfl⟩:=hc
   simp[eK]at hq
  ·simp at hc
 ·simp only[Option.map_eq_some_iff]at hc
  obtain⟨x',hx,rfl⟩:=hc
  simp[eK]at hq
 ·split at hc
  ·split at hc
   ·simp only[Option.some.injEq]at hc
    subst hc
    simp[eK]at hq
   ·cases hc
  ·cases hc
 ·split at hc
  ·split at hc
   ·split at hc
    ·simp only[Option.bind_eq_bind,Option.bind_eq_some_iff,Option.pure_def,Option.some.injEq]at hc
     obtain⟨x',hx,y',hy,rfl⟩:=hc
     simp[eK]at hq
    ·simp at hc
   ·simp at hc
  ·simp at hc
 ·simp at hc
theorem yQ {vo:gC} {mr:Option Row} (hc:rf P o.op=some vo) (hq:eK vo (da env) g id=some (v,mr)) (S:gz P hs D ι g w) (E:cm P w D ι env a):KV P a o w D ι id v mr:=by
 unfold rf at hc
 split at hc
 ·rename_i ho
  simp only[Option.map_eq_some_iff]at hc
  obtain⟨x',hx,rfl⟩:=hc
  simp[eK]at hq;obtain⟨rfl,rfl⟩:=hq
  exact NI E (.inl ho) hx
 ·rename_i ho
  simp only[Option.map_eq_some_iff]at hc
  obtain⟨x',hx,rfl⟩:=hc
  simp[eK]at hq;obtain⟨rfl,rfl⟩:=hq
  exact NI E (.inr ho) hx
 ·rename_i ho
  simp only[Option.bind_eq_bind,Option.bind_eq_some_iff,Option.pure_def,Option.some.injEq]at hc
  obtain⟨c',h1,x',h2,y',h3,rfl⟩:=hc
  exact ly hq fun h=>PX E ho h1 h2 h3 h
 ·rename_i ho
  simp only[Option.map_eq_some_iff]at hc
  obtain⟨z,hz,rfl⟩:=hc
  simp only[eK,Option.some.injEq,Prod.mk.injEq]at hq
  obtain⟨rfl,rfl⟩:=hq
  exact .inl (R4 ho hz)
 ·rename_i ho
  simp only[Option.map_eq_some_iff]at hc
  obtain⟨x',hx,rfl⟩:=hc
  simp only[eK,Option.map_eq_some_iff,Prod.mk.injEq]at hq
  obtain⟨cs,dr,rfl,rfl⟩:=hq
  exact .inl (R0 E ho hx dr)
 ·rename_i ho
  simp only[Option.bind_eq_bind,Option.bind_eq_some_iff,Option.pure_def,Option.some.injEq]at hc
  obtain⟨ag,h1,n,h2,x',h3,rfl⟩:=hc
  exact ly hq fun h=>PS S E ho h1 h2 h3 h
 ·rename_i ho
  simp only[Option.bind_eq_bind,Option.bind_eq_some_iff,Option.pure_def,Option.some.injEq]at hc
  obtain⟨n,h2,x',h3,y',h4,rfl⟩:=hc
  simp[eK]at hq
 ·rename_i ho
  simp only[Option.map_eq_some_iff]at hc
  obtain⟨x',hx,rfl⟩:=hc
  exact ly hq fun h=>Ss E ho hx h
 ·rename_i op t x y yt ho
  unfold vh at hc
  split at hc
  ·exact Sb (neg:=false) ho hc hq E
  ·exact Sb (neg:=true) ho hc hq E
  ·simp only[Option.bind_eq_bind,Option.bind_eq_some_iff,Option.pure_def,Option.some.injEq]at hc
   obtain⟨x',h3,y',h4,rfl⟩:=hc
   exact ly hq fun h=>SA (left:=true) E ho h3 h4 h
  ·simp only[Option.bind_eq_bind,Option.bind_eq_some_iff,Option.pure_def,Option.some.injEq]at hc
   obtain⟨x',h3,y',h4,rfl⟩:=hc
   exact ly hq fun h=>SA (left:=false) E ho h3 h4 h
  ·rename_i n1 n2 n3 n4
   split at hc
   ·simp only[Option.bind_eq_bind,Option.bind_eq_some_iff,Option.pure_def,Option.some.injEq]at hc
    obtain⟨x',h3,y',h4,rfl⟩:=hc
    exact ly hq fun h=>Sr E ho n1 n2 h3 h4 h
   ·simp only[Option.bind_eq_bind,Option.bind_eq_some_iff,Option.pure_def,Option.some.injEq]at hc
    obtain⟨x',h3,y',h4,rfl⟩:=hc
    exact ly hq fun h=>PI E ho n1 n2 h3 h4 h
   ·simp at hc
 ·rename_i ho
  simp only[Option.map_eq_some_iff]at hc
  obtain⟨x',hx,rfl⟩:=hc
  exact ly hq fun h=>Sz E ho hx h
 ·rename_i ho
  simp only[Option.map_eq_some_iff]at hc
  obtain⟨x',hx,rfl⟩:=hc
  exact ly hq fun h=>Sy E ho hx h
 ·rename_i ho
  split at hc
  ·rename_i q k h1 h2
   simp only[Option.map_eq_some_iff]at hc
   obtain⟨x',hx,rfl⟩:=hc
   exact ly hq fun h=>PJ E ho h1 h2 hx h
  ·rename_i h1 h2
   simp only[Option.map_eq_some_iff]at hc
   obtain⟨x',hx,rfl⟩:=hc
   exact ly hq fun h=>by
    have hr:=dj E hx
    unfold bL at h
    split at h
    ·rename_i s hb
     simp at h;subst h
     rw[hb]at hr
     exact⟨.string s,by simp only[execOp,ho,fD hr,convert,Sem.run_bind,run_underlying h1,run_underlying h2,Result.andThen_ok,Sem.run_pure],.eP _ _ (.str _)⟩
    ·simp at h
  ·simp at hc
 ·rename_i ho
  split at hc
  ·rename_i e ht
   simp only[Option.bind_eq_bind,Option.bind_eq_some_iff,Option.pure_def,Option.some.injEq]at hc
   obtain⟨n,h1,x',h2,lo,h3,hi,h4,rfl⟩:=hc
   exact ly hq fun h=>MY S E ho ht h1 h2 h3 h4 h
  ·rename_i ht
   simp only[Option.bind_eq_bind,Option.bind_eq_some_iff,Option.pure_def,Option.some.injEq]at hc
   obtain⟨x',h2,lo,h3,hi,h4,rfl⟩:=hc
   exact ly hq fun h=>Kw E ho ht h2 h3 h4 h
  ·simp at hc
 ·rename_i ho
  split at hc
  ·rename_i fs rQ
   split at hc
   ·rename_i f hf
    split at hc
    ·rename_i m hm
     simp only[Option.map_eq_some_iff]at hc
     obtain⟨x',hx,rfl⟩:=hc
     exact ly hq fun h=>MU E ho rQ hf hm hx h
    ·simp at hc
   ·simp at hc
  ·simp at hc
 ·rename_i ho
  split at hc
  ·rename_i fs rQ
   split at hc
   ·rename_i f hf
    simp only[Option.bind_eq_bind,Option.bind_eq_some_iff,Option.pure_def,Option.some.injEq]at hc
    obtain⟨ag,h1,n,h2,x',h3,rfl⟩:=hc
    exact ly hq fun h=>MV E ho rQ hf h1 h2 h3 h
   ·simp at hc
  ·simp at hc
 ·rename_i ho
  split at hc
  ·rename_i e ht
   split at hc
   ·rename_i m hm
    simp only[Option.bind_eq_bind,Option.bind_eq_some_iff,Option.pure_def,Option.some.injEq]at hc
    obtain⟨x',h1,i',h2,rfl⟩:=hc
    exact ly hq fun h=>MX S E ho ht hm h1 h2 h
   ·simp at hc
  ·rename_i len e ht
   split at hc
   ·rename_i m hm
    simp only[Option.bind_eq_bind,Option.bind_eq_some_iff,Option.pure_def,Option.some.injEq]at hc
    obtain⟨x',h1,i',h2,rfl⟩:=hc
    exact ly hq fun h=>PM E ho ht hm h1 h2 h
   ·simp at hc
  ·simp at hc
 ·rename_i ho
  split at hc
  ·rename_i ht
   simp only[Option.bind_eq_bind,Option.bind_eq_some_iff,Option.pure_def,Option.some.injEq]at hc
   obtain⟨x',h1,i',h2,rfl⟩:=hc
   exact ly hq fun h=>PO E ho ht h1 h2 h
  ·rename_i len e ht
   simp only[Option.bind_eq_bind,Option.bind_eq_some_iff,Option.pure_def,Option.some.injEq]at hc
   obtain⟨ag,h0,n,h1,x',h2,i',h3,rfl⟩:=hc
   exact ly hq fun h=>PN E ho ht h0 h1 h2 h3 h
  ·simp at hc
 ·rename_i ho
  simp only[Option.map_eq_some_iff]at hc
  obtain⟨x',hx,rfl⟩:=hc
  exact ly hq fun h=>HH E ho hx h
 ·rename_i ho
  split at hc
  ·rename_i fs rQ
   split at hc
   ·rename_i z l hz hl
    split at hc
    ·rename_i dQ
     simp only[Option.map_eq_some_iff]at hc
     obtain⟨q,LG,rfl⟩:=hc
     simp only[eK,Option.map_eq_some_iff,Prod.mk.injEq]at hq
     obtain⟨cs,dr,rfl,rfl⟩:=hq
     exact MT E ho rQ hz hl (fun f hf=>by
      rw[Array.all_eq_true_iff_forall_mem]at dQ
      exact dQ f (Array.mem_toList_iff.1 hf)) LG dr
    ·simp at hc
   ·simp at hc
  ·rename_i len e ht
   split at hc
   ·rename_i z l n hz hl hn
    simp only[Option.some.injEq]at hc
    subst hc
    simp only[eK,Option.map_eq_some_iff,Prod.mk.injEq]at hq
    obtain⟨cs,dr,rfl,rfl⟩:=hq
    exact Kv E ho ht hz hl hn dr
   ·simp at hc
  ·simp at hc
 ·rename_i ho
  split at hc
  ·rename_i e ht
   split at hc
   ·rename_i sz z l h1 h2 h3
    split at hc
    ·rename_i hh
     simp only[Option.some.injEq]at hc
     subst hc
     simp only[eK,Option.map_eq_some_iff,Prod.mk.injEq]at hq
     obtain⟨rs,yu,rfl,rfl⟩:=hq
     exact .inl (Js E ho ht h1 h2 h3 hh.1 hh.2 (by rw[List.map_map]at yu;exact yu))
    ·simp at hc
   ·simp at hc
  ·simp at hc
 ·rename_i ho
  split at hc
  ·rename_i hh
   simp only[Option.map_eq_some_iff]at hc
   obtain⟨l,hl,rfl⟩:=hc
   simp[eK]at hq;obtain⟨rfl,rfl⟩:=hq
   exact PU E ho hh.1 hh.2 hl
  ·split at hc
   ·rename_i hh
    simp only[Option.map_eq_some_iff]at hc
    obtain⟨l,hl,rfl⟩:=hc
    simp[eK]at hq;obtain⟨rfl,rfl⟩:=hq
    exact PV E ho hh.1 hh.2 hl
   ·simp at hc
 ·rename_i ho
  split at hc
  ·rename_i e ht
   split at hc
   ·rename_i m z i h1 h2 h3
    split at hc
    ·rename_i hb
     simp only[Option.bind_eq_bind,Option.bind_eq_some_iff,Option.pure_def,Option.some.injEq]at hc
     obtain⟨l',h4,c',h5,rfl⟩:=hc
     simp only[eK,Option.map_eq_some_iff,Prod.mk.injEq]at hq
     obtain⟨⟨n,r⟩,hr,rfl,rfl⟩:=hq
     exact .inl (GZ E ho ht h1 h2 h3 hb h4 h5 hr)
    ·simp at hc
   ·simp at hc
  ·simp at hc
 ·rename_i ho
  exact Pp ho hc hq S E
 ·rename_i ho
  split at hc
  ·rename_i dir e ht
   split at hc
   ·rename_i i hi
    split at hc
    ·rename_i hb
     simp only[Option.map_eq_some_iff]at hc
     obtain⟨x',hx,rfl⟩:=hc
     simp only[eK,Option.map_eq_some_iff,Prod.mk.injEq]at hq
     obtain⟨n,hn,rfl,rfl⟩:=hq
     exact .inr (.inr (Pf E ho ht hi hb hx hn))
    ·cases hc
   ·cases hc
  ·cases hc
 ·simp only[Option.bind_eq_bind,Option.bind_eq_some_iff,Option.pure_def,Option.some.injEq]at hc
  obtain⟨x',_,y',_,rfl⟩:=hc
  simp[eK]at hq
 ·split at hc
  ·split at hc
   ·simp only[Option.map_eq_some_iff]at hc
    obtain⟨x',_,rfl⟩:=hc
    simp[eK]at hq
   ·cases hc
  ·cases hc
 ·rename_i ho
  split at hc
  ·rename_i m z hm
   simp only[Option.some.injEq]at hc
   subst hc
   simp only[eK,List.map_nil,bw,Option.some.injEq,Prod.mk.injEq]at hq
   obtain⟨rfl,rfl⟩:=hq
   exact .inr (.inl (R3 ho))
  ·cases hc
 ·rename_i ho
  split at hc
  ·rename_i m z x' k' hm hx hk
   simp only[Option.some.injEq]at hc
   subst hc
   obtain⟨rfl,h⟩:=PT (id:=id) S E ho hm hx hk hq
   exact h
  ·cases hc
 ·split at hc
  ·simp only[Option.some.injEq]at hc
   subst hc
   simp[eK]at hq
  ·cases hc
 ·split at hc
  ·simp only[Option.some.injEq]at hc
   subst hc
   simp[eK]at hq
  ·cases hc
 ·simp only[Option.some.injEq]at hc
  subst hc
  simp[eK]at hq
 ·simp only[Option.some.injEq]at hc
  subst hc
  simp[eK]at hq
 ·simp at hc
end
end Go.Proofs.YtgoelphibofcmaaGreat.V

namespace Go.Proofs.YtgoelphibofcmaaGreat.V
open Go.RowKit
variable {P:Program} {w w':World} {D D':Nat->Prop} {ι ι':Names}
def kh (ι:Names) (id:Id) (B:sK):Names:=fun i=>if i=id then some B else ι i
theorem ev (ι:Names) (id:Id) (B:sK):kh ι id B id=some B:=if_pos rfl
theorem fW {ι:Names} {id:Id} {B:sK} (h:ι id=none):∀i B',ι i=some B'->kh ι id B i=some B':=fun i B' hi=>by
 have:i≠id:=by rintro rfl;rw[h]at hi;cases hi
 rw[kh,if_neg this];exact hi
theorem gp {ι:Names} {id i:Id} {B:sK} (h:i≠id):kh ι id B i=ι i:=if_neg h
section
variable {g:Rows} {hs:Nat} {env:Env} {a:Act} {o:Oper} {id:Id} {v:AV}
theorem kM.frame {B:sK} {r:Row} (h:kM P w D ι B r) (hb:w'.heap[B.b]? =w.heap[B.b]?) (hr:∀a v,dc P w D ι a v->dc P w' D' ι' a v):kM P w' D' ι' B r:=
 ⟨h.sz,by obtain⟨c,T,h1,h2⟩:=h.xV;exact⟨c,T,hb.trans h1,h2⟩,h.fits,h.len,h.flat,fun i j cs a hi hj=>by
  obtain⟨v,h1,h2⟩:=h.at_ i j cs a hi hj
  exact⟨v,(World.cell?_of_block (a:=⟨B.b,i*r.sz+j,none⟩) hb).trans h1,hr _ _ h2⟩⟩
theorem ia.frame {B:sK} {r:Row} (h:ia P w D ι B r) (hb:w'.heap[B.b]? =w.heap[B.b]?) (hr:∀a v,dc P w D ι a v->dc P w' D' ι' a v):ia P w' D' ι' B r:=
 ⟨h.sz,h.flat,fun hk=>(h.row hk).frame hb hr,fun m hm=>by
  obtain⟨h1,es,c,h2,h3,h5,h4⟩:=h.map m hm
  refine⟨h1,es,c,hb.trans h2,h3,h5,fun i cs hi=>?_⟩
  obtain⟨e,kv,vv,q1,q2,q3,q4,q5⟩:=h4 i cs hi
  exact⟨e,kv,vv,q1,q2,q3,hr _ _ q4,hr _ _ q5⟩,fun c hc=>by
  obtain⟨h1,buf,s,q,h2,h3,h4⟩:=h.chan c hc
  refine⟨h1,buf,s,q,hb.trans h2,h3,fun i cs hi=>?_⟩
  obtain⟨a,u,q1,q2,q3⟩:=h4 i cs hi
  exact⟨a,u,q1,q2,hr _ _ q3⟩⟩
theorem gz.kill (S:gz P hs D ι g w) (i:Id):gz P hs D ι (cj g i) w:=by
 refine⟨S.lo,S.dead,fun id r h=>?_,fun id kR r r' B B' h h' hw hB dD hb=>?_⟩
 ·unfold cj at h;split at h
  ·cases h
  ·exact S.row id r h
 ·unfold cj at h h'
  split at h
  ·cases h
  ·split at h'
   ·cases h'
   ·exact S.inj id kR r r' B B' h h' hw hB dD hb
theorem gz.sub {g':Rows} (S:gz P hs D ι g w) (h:∀id r,g' id=some r->g id=some r):gz P hs D ι g' w:=
 ⟨S.lo,S.dead,fun id r hr=>S.row id r (h id r hr),fun id kR r r' B B' h1 h2=>S.inj id kR r r' B B' (h _ _ h1) (h _ _ h2)⟩
theorem An {hid:List Nat} {n:Nat} {g:Rows}:∀id r,fZ hid n g id=some r->g id=some r:=fun id r h=>by
 cases hid with
 |nil=>exact h
 |cons a l=>
  have e:fZ (a::l) n g id=if (a::l).contains id.site=true/\id.bm=n then none else g id:=rfl
  rw[e]at h
  by_cases hc:(a::l).contains id.site=true/\id.bm=n
  ·rw[if_pos hc]at h;cases h
  ·rw[if_neg hc]at h;exact h
theorem gz.stay (S:gz P hs D ι g w) (hb:∀b,b<w.heap.size->w'.heap[b]? =w.heap[b]?) (hz:w.heap.size<=w'.heap.size) (hD:∀b,D b->D' b) (hD':∀b,D' b->b<w'.heap.size) (kQ:∀b,D' b->D b∨w.heap.size<=b) (hι:∀id B,ι id=some B->ι' id=some B):gz P hs D' ι' g w':=by
 have hr:∀a v,dc P w D ι a v->dc P w' D' ι' a v:=fun a v h=>h.frame (fun b hd=>hb b (S.dead b hd)) hD hι
 have lt:∀{id r B},g id=some r->ι id=some B->B.b<w.heap.size:=fun {id r B} h hB=>by
  obtain⟨B',dD,R,_⟩:=S.row id r h
  rw[hB]at dD;injection dD with dD;subst dD
  exact R.lt
 refine⟨Nat.le_trans S.lo hz,hD',fun id r h=>?_,fun id kR r r' B B' h h' hw hB dD he=>?_⟩
 ·obtain⟨B,hB,R,h1,h2⟩:=S.row id r h
  exact⟨B,hι _ _ hB,R.frame (hb _ (lt h hB)) hr,h1,fun hw hd=>by
   rcases kQ _ hd with hd|hd
   ·exact h2 hw hd
   ·have:=lt h hB;omega⟩
 ·obtain⟨C,hC,_⟩:=S.row id r h
  obtain⟨C',Dw,_⟩:=S.row kR r' h'
  have e1:=hι _ _ hC
  have e2:=hι _ _ Dw
  rw[hB]at e1;injection e1 with e1;subst e1
  rw[dD]at e2;injection e2 with e2;subst e2
  exact S.inj id kR r r' _ _ h h' hw hC Dw he
theorem Step.stay (S:gz P hs D ι g w) (hb:∀b,b<w.heap.size->w'.heap[b]? =w.heap[b]?) (hz:w.heap.size<=w'.heap.size) (e1:w'.os=w.os) (e2:w'.tape=w.tape) (e3:w'.output=w.output) (hD:∀b,D b->D' b) (kQ:∀b,D' b->D b∨w.heap.size<=b) (hι:∀id B,ι id=some B->ι' id=some B):Step hs D ι w D' ι' w':=
 ⟨⟨e1,e2,e3,hz,fun k hk=>hb k (Nat.lt_of_lt_of_le hk S.lo)⟩,fun b hd=>hb b (S.dead b hd),hD,hι,fun b h=>(kQ b h).imp_right (Nat.le_trans S.lo)⟩
theorem gz.alloc (S:gz P hs D ι g w) {cells:Array Value} {T:TypeId} {r:Row} (hh:w'.heap=w.heap.push (.cells cells T (0,0))) (hn:ι id=none) (hw:r.w=true) (h1:r.rows.length*r.sz<=cells.size) (h2:∀cs∈r.rows,cs.length=r.sz) (h3:∀cs∈r.rows,∀a∈cs,a.cell=true)
  (h4:∀i j cs a,r.rows[i]? =some cs->cs[j]? =some a->∃x,cells[i*r.sz+j]? =some x/\dc P w D ι a x):gz P hs D (kh ι id ⟨w.heap.size,r.sz,cells.size,none⟩) (bF g id r) w':=by
 have hb:∀b,b<w.heap.size->w'.heap[b]? =w.heap[b]? :=fun b dR=>by rw[hh,Array.getElem?_push,if_neg (by omega)]
 have hz:w.heap.size<=w'.heap.size:=by rw[hh];simp
 have S':=S.stay (D':=D) (ι':=kh ι id ⟨w.heap.size,r.sz,cells.size,none⟩) hb hz (fun _ h=>h) (fun b hd=>Nat.lt_of_lt_of_le (S.dead b hd) hz) (fun _ h=>.inl h) (fW hn)
 have hr:∀a v,dc P w D ι a v->dc P w' D (kh ι id ⟨w.heap.size,r.sz,cells.size,none⟩) a v:=fun a v h=>h.frame (fun b hd=>hb b (S.dead b hd)) (fun _ h=>h) (fW hn)
 have kQ:w'.heap[w.heap.size]? =some (.cells cells T (0,0)):=by rw[hh];simp
 have gone:g id=none:=by
  cases hg:g id with
  |none=>rfl
  |some q=>
   obtain⟨B,hB,_⟩:=S.row id q hg
   rw[hn]at hB;cases hB
 have lt:∀{i q B},g i=some q->ι i=some B->B.b<w.heap.size:=fun {i q B} h hB=>by
  obtain⟨B',dD,R,_⟩:=S.row i q h
  rw[hB]at dD;injection dD with dD;subst dD
  exact R.lt
 refine⟨S'.lo,S'.dead,fun i q h=>?_,fun i i' q q' B B' h h' RD hB dD he=>?_⟩
 ·unfold bF at h
  split at h
  ·rename_i e
   subst e
   injection h with h;subst h
   refine⟨_,ev _ _ _,kM.obj ⟨rfl,⟨cells,T,kQ,rfl⟩,h1,h2,h3,fun k j cs a hk hj=>?_⟩ rfl,fun _=>S.lo,fun _ hd=>?_⟩
   ·obtain⟨x,hx,hrx⟩:=h4 k j cs a hk hj
    exact⟨x,by simp[World.cell?,kQ,hx],hr _ _ hrx⟩
   ·have:=S.dead _ hd;simp at this
  ·exact S'.row i q h
 ·unfold bF at h h'
  split at h
  ·rename_i e
   split at h'
   ·rename_i e';exact e.trans e'.symm
   ·exfalso
    rename_i e'
    subst e
    rw[ev]at hB;injection hB with hB;subst hB
    rw[gp e']at dD
    have:=lt h' dD
    simp at he;omega
  ·rename_i e
   split at h'
   ·exfalso
    rename_i e'
    subst e'
    rw[ev]at dD;injection dD with dD;subst dD
    rw[gp e]at hB
    have:=lt h hB
    simp at he;omega
   ·exact S'.inj i i' q q' B B' h h' RD hB dD he
theorem gz.put (S:gz P hs D ι g w) {r r':Row} {B:sK} {cur cur':Array Value} {T:TypeId} (hid:g id=some r) (hw:r.w=true) (hB:ι id=some B) (hblk:w.heap[B.b]? =some (.cells cur T (0,0))) (fa:cur'.size=cur.size)
  (h0:r'.w=true) (h1:r'.sz=r.sz) (h2:r'.rows.length*r'.sz<=B.C) (h3:∀cs∈r'.rows,cs.length=r'.sz) (h4:∀cs∈r'.rows,∀a∈cs,a.cell=true)
  (h5:∀i j cs a,r'.rows[i]? =some cs->cs[j]? =some a->∃v,cur'[i*r.sz+j]? =some v/\dc P w D ι a v):gz P hs D ι (bF g id r') (w.setRow B.b cur')/\Step hs D ι w D ι (w.setRow B.b cur'):=by
 obtain⟨B0,xj,RO,j5,lZ⟩:=S.row id r hid
 rw[hB]at xj;injection xj with xj;subst xj
 have xl:=RO.Mh hblk
 have R:=RO.row xl
 have hd:∀b,D b->(w.setRow B.b cur').heap[b]? =w.heap[b]? :=fun b hb=>setRow_other w B.b b cur' (by rintro rfl;exact lZ hw hb)
 have hr:∀a v,dc P w D ι a v->dc P (w.setRow B.b cur') D ι a v:=fun a v h=>h.frame hd (fun _ h=>h) (fun _ _ h=>h)
 have hC:cur.size=B.C:=by
  obtain⟨c,T',h1,h2⟩:=R.xV
  rw[hblk]at h1;injection h1 with h1;injection h1 with h1 Oh;subst h1;exact h2
 refine⟨⟨by simpa using S.lo,fun b hb=>by simpa using S.dead b hb,fun i q h=>?_,fun i i' q q' C C' h h' RD hC Dw he=>?_⟩,⟨⟨by simp,by simp,by simp,by simp,fun k hk=>setRow_other w B.b k cur' (by have:=j5 hw;omega)⟩,hd,fun _ h=>h,fun _ _ h=>h,fun _ h=>.inl h⟩⟩
 ·unfold bF at h
  split at h
  ·rename_i e
   subst e
   injection h with h;subst h
   refine⟨B,hB,kM.obj ⟨by rw[h1];exact R.sz,⟨cur',T,setRow_heap w B.b cur cur' T _ hblk,by rw[fa];exact hC⟩,h2,h3,h4,fun k j cs a hk hj=>?_⟩ xl,fun _=>j5 hw,fun _=>lZ hw⟩
   obtain⟨v,hv,jH⟩:=h5 k j cs a hk hj
   exact⟨v,by rw[cell_setRow_same w B.b _ cur cur' T _ hblk,h1];exact hv,hr _ _ jH⟩
  ·rename_i e
   obtain⟨C,hC,RC,k1,k2⟩:=S.row i q h
   refine⟨C,hC,RC.frame (setRow_other w B.b C.b cur' (fun Nd=>e ?_)) hr,k1,k2⟩
   exact(S.inj id i r q B C hid h hw hB hC Nd.symm).symm
 ·unfold bF at h h'
  have get:∀j p,(if j=id then some r' else g j)=some p->∃p0,g j=some p0/\(p.w=true->p0.w=true):=fun j p hp=>by
   split at hp
   ·rename_i e;subst e;injection hp with hp;subst hp;exact⟨r,hid,fun _=>hw⟩
   ·exact⟨p,hp,fun h=>h⟩
  obtain⟨p,hp,Qp⟩:=get _ _ h
  obtain⟨p',OU,_⟩:=get _ _ h'
  exact S.inj i i' p p' C C' hp OU (Qp RD) hC Dw he
theorem gz.rename (S:gz P hs D ι g w) {i:Id} {r:Row} {B:sK} (hi:g i=some r) (hw:r.w=true) (hB:ι i=some B) (hn:ι id=none):gz P hs D (kh ι id B) (bF (cj g i) id r) w:=by
 have S':=S.stay (w':=w) (D':=D) (ι':=kh ι id B) (fun _ _=>rfl) (Nat.le_refl _) (fun _ h=>h) S.dead (fun _ h=>.inl h) (fW hn)
 have gY:i≠id:=by rintro rfl;rw[hn]at hB;cases hB
 obtain⟨B1,Aw,R,k1,k2⟩:=S'.row i r hi
 rw[gp gY,hB]at Aw;injection Aw with Aw;subst Aw
 have get:∀j p,bF (cj g i) id r j=some p->(j=id/\p=r)∨(j≠id/\j≠i/\g j=some p):=fun j p hp=>by
  unfold bF cj at hp
  split at hp
  ·rename_i e;injection hp with hp;exact .inl ⟨e,hp.symm⟩
  ·rename_i e
   split at hp
   ·cases hp
   ·rename_i e';exact .inr ⟨e,e',hp⟩
 refine⟨S.lo,S.dead,fun j p h=>?_,fun j j' p p' C C' h h' Qp hC Dw he=>?_⟩
 ·rcases get j p h with⟨rfl,rfl⟩|⟨_,_,hp⟩
  ·exact⟨B,ev _ _ _,R,k1,k2⟩
  ·exact S'.row j p hp
 ·rcases get j p h with⟨rfl,rfl⟩|⟨q1,q2,hp⟩
  ·rcases get j' p' h' with⟨rfl,rfl⟩|⟨q1',q2',OU⟩
   ·rfl
   ·exfalso
    rw[ev]at hC;injection hC with hC;subst hC
    rw[gp q1']at Dw
    exact q2' (S.inj i j' p p' B C' hi OU hw hB Dw he).symm
  ·rcases get j' p' h' with⟨rfl,rfl⟩|⟨q1',q2',OU⟩
   ·exfalso
    rw[ev]at Dw;injection Dw with Dw;subst Dw
    rw[gp q1]at hC
    exact q2 (S.inj j i p p' C B hp hi Qp hC hB he)
   ·rw[gp q1]at hC
    rw[gp q1']at Dw
    exact S.inj j j' p p' C C' hp OU Qp hC Dw he
def CT (P:Program) (hs:Nat) (a:Act) (o:Oper) (w:World) (D:Nat->Prop) (ι:Names) (id:Id) (v:AV) (g':Rows):Prop:=
 ∃u w' ι',((execOp a.eval o).run P w=.ok (.value u) w'∨(execOp a.eval o).run P w=.ok .skip w'/\u=undef)/\Step hs D ι w D ι' w'/\gz P hs D ι' g' w'/\dc P w' D ι' v u/\∀i,i≠id->ι' i=ι i
theorem Ck {xs:List AV} {vs:Array Value} (h:fh P w D ι xs vs) (hf:∀a∈xs,a.cell=true):∀v∈vs.toList,v.oneCell'=true:=by
 intro v hv
 obtain⟨j,hj,rfl⟩:=List.getElem_of_mem hv
 have KG:j<xs.length:=by rw[<-h.1];simpa using hj
 obtain⟨u,hu,hr⟩:=h.2 j _ (List.getElem?_eq_getElem KG)
 have hc:=hr.AZ (hf _ (List.getElem_mem KG))
 have:vs.toList[j]=u:=by
  have:vs.toList[j]? =some u:=by simpa using hu
  rw[List.getElem?_eq_getElem hj]at this;injection this
 rw[this]
 cases u<;>simp_all [Value.oneCell']
theorem jO {i j n m:Nat} (h:i<n) (hj:j<m):i*m+j<n*m:=by
 have:(i+1)*m<=n*m:=Nat.mul_le_mul_right _ h
 rw[Nat.add_mul,Nat.one_mul]at this;omega
theorem kM.cur {B:sK} {r:Row} (R:kM P w D ι B r):∃cur T,w.heap[B.b]? =some (.cells cur T (0,0))/\cur.size=B.C/\∀i j cs a,r.rows[i]? =some cs->cs[j]? =some a->∃v,cur[i*r.sz+j]? =some v/\dc P w D ι a v:=by
 obtain⟨cur,T,h1,h2⟩:=R.xV
 refine⟨cur,T,h1,h2,fun i j cs a hi hj=>?_⟩
 obtain⟨v,hv,hr⟩:=R.at_ i j cs a hi hj
 exact⟨v,by simpa[World.cell?,h1]using hv,hr⟩
theorem Ld {t:TypeId} {n:Nat} {x y:Operand} {x' y':O} {g':Rows} (S:gz P hs D ι g w) (E:cm P w D ι env a) (ho:o.op=.store t x y) (hn:ei P t=some n) (hx:cO P x=some x') (hy:cO P y=some y')
  (hv:bK g n (da env y') (da env x')=some g'):CT P hs a o w D ι id .undef g':=by
 have rx:=dj E hx
 have ry:=dj E hy
 unfold bK at hv
 split at hv
 ·rename_i i k off hp
  rw[hp]at rx
  simp only[Option.bind_eq_some_iff]at hv
  obtain⟨r,hg,cs,dr,hv⟩:=hv
  split at hv
  ·rename_i hc
   obtain⟨c1,c2,c3,c4⟩:=hc
   simp at hv;subst hv
   obtain⟨B,he,hB,hk⟩:=iU rx
   obtain⟨B',dD,R,j5,lZ⟩:=S.row i r hg
   rw[hB]at dD;injection dD with dD;subst dD
   replace R:=R.row hk
   obtain⟨cur,T,hblk,hC,vO⟩:=R.cur
   have hL:=qW ry c3
   have h1:=Ck hL (List.all_eq_true.1 c3)
   have LP:(a.eval y).cells.size=n:=by rw[hL.1,c2]
   have kH:=(List.getElem?_eq_some_iff.1 dr).1
   have hlen:=R.len cs (List.mem_of_getElem? dr)
   have hbound:k*r.sz+r.sz<=r.rows.length*r.sz:=by
    have:(k+1)*r.sz<=r.rows.length*r.sz:=Nat.mul_le_mul_right _ kH
    rwa [Nat.add_mul,Nat.one_mul]at this
   have hf:=R.fits
   have dL:=run_storeCells_at P B.b (k*B.sz+off) T (a.eval y).cells.toList 0 cur w hblk (by rw[R.sz];simp only[Array.length_toList];omega) h1
   simp only[Nat.add_zero,Array.length_toList]at dL
   have rT:=S.put (r':={r with rows:=r.rows.set k (cF cs off (da env y').cells)}) hg c1 hB hblk (cur':=(cur.toList.take (k*B.sz+off)++(a.eval y).cells.toList++cur.toList.drop (k*B.sz+off+(a.eval y).cells.size)).toArray)
    (by rw[R.sz];simp;omega) c1 rfl (by simpa using R.fits) (fun c Rc=>by
     rcases List.mem_or_eq_of_mem_set Rc with h|rfl
     ·exact R.len c h
     ·simp[cF];omega) (fun c Rc b hb=>by
     rcases List.mem_or_eq_of_mem_set Rc with h|rfl
     ·exact R.flat c h b hb
     ·unfold cF at hb
      rcases List.mem_append.1 hb with hb|hb
      ·rcases List.mem_append.1 hb with hb|hb
       ·exact R.flat cs (List.mem_of_getElem? dr) b (List.mem_of_mem_take hb)
       ·exact List.all_eq_true.1 c3 b hb
      ·exact R.flat cs (List.mem_of_getElem? dr) b (List.mem_of_mem_drop hb)) (fun i2 j c b yk hj=>by
     rw[R.sz]
     simp only[List.getElem?_toArray]
     by_cases yl:i2=k
     ·subst yl
      rw[List.getElem?_set_self kH]at yk
      injection yk with yk;subst yk
      unfold cF at hj
      by_cases hjo:j<off
      ·rw[List.append_assoc,List.getElem?_append_left (by simp;omega),List.getElem?_take,if_pos hjo]at hj
       rw[List.append_assoc,List.getElem?_append_left (by simp;omega),List.getElem?_take,if_pos (by omega)]
       simpa using vO _ _ _ _ dr hj
      ·by_cases iM:j<off+n
       ·rw[List.append_assoc,List.getElem?_append_right (by simp;omega),List.getElem?_append_left (by simp;omega)]at hj
        rw[List.append_assoc,List.getElem?_append_right (by simp;omega),List.getElem?_append_left (by simp;omega)]
        simp only[List.length_take]at hj ⊢
        rw[show j-min off cs.length=j-off by omega]at hj
        rw[show i2*r.sz+j-min (i2*r.sz+off) cur.toList.length=j-off by simp;omega]
        simpa using hL.2 _ _ hj
       ·rw[List.getElem?_append_right (by simp;omega)]at hj
        rw[List.getElem?_append_right (by simp;omega)]
        simp only[List.length_append,List.length_take,List.getElem?_drop,Array.length_toList]at hj ⊢
        rw[show off+(da env y').cells.length+(j-(min off cs.length+(da env y').cells.length))=j by omega]at hj
        rw[show i2*r.sz+off+(a.eval y).cells.size+(i2*r.sz+j-(min (i2*r.sz+off) cur.size+(a.eval y).cells.size))=i2*r.sz+j by omega]
        simpa using vO _ _ _ _ dr hj
     ·rw[List.getElem?_set_ne (fun e=>yl e.symm)]at yk
      have hi2l:=(List.getElem?_eq_some_iff.1 yk).1
      have gN:j<r.sz:=by rw[<-R.len c (List.mem_of_getElem? yk)];exact(List.getElem?_eq_some_iff.1 hj).1
      have:=vO _ _ _ _ yk hj
      rcases Nat.lt_or_gt_of_ne yl with dR|Lt
      ·have h2:i2*r.sz+j<k*r.sz:=jO dR gN
       rw[List.append_assoc,List.getElem?_append_left (by simp;omega),List.getElem?_take,if_pos (by omega)]
       simpa using this
      ·have h2:k*r.sz+r.sz<=i2*r.sz:=by
        have:(k+1)*r.sz<=i2*r.sz:=Nat.mul_le_mul_right _ Lt
        rwa [Nat.add_mul,Nat.one_mul]at this
       rw[List.getElem?_append_right (by simp;omega)]
       simp only[List.length_append,List.length_take,List.getElem?_drop,Array.length_toList]
       rw[show k*r.sz+off+(a.eval y).cells.size+(i2*r.sz+j-(min (k*r.sz+off) cur.size+(a.eval y).cells.size))=i2*r.sz+j by omega]
       simpa using this)
   refine⟨undef,_,ι,.inr ⟨?_,rfl⟩,rT.2,rT.1,dc.undef,fun _ _=>rfl⟩
   simp only[execOp,ho,he,Instr.storeAt,Instr.sureAddr,storeVar,Sem.run_bind,Sem.run_pure,Result.andThen_ok,run_sizeOf hn,LP,ne_eq,not_true_eq_false,if_false,dL]
  ·simp at hv
 ·simp at hv
end
end Go.Proofs.YtgoelphibofcmaaGreat.V

namespace Go.Proofs.YtgoelphibofcmaaGreat.V
open Go.RowKit
variable {P:Program} {w w':World} {D D':Nat->Prop} {ι ι':Names}
section
variable {g:Rows} {hs:Nat} {env:Env} {a:Act} {o:Oper} {id:Id} {v:AV}
theorem se (S:gz P hs D ι g w) {y:AV} {u:Value} {ys:List (List AV)} {sz:Nat} (hr:dc P w D ι y u) (hy:bj g y=some ys) (hl:∀c∈ys,c.length=sz) (hf:∀c∈ys,∀b∈c,b.cell=true):
  ∃A c,u=.slice A ys.length c/\(ys=[]∨∃b o,∃news:List Value,A=some ⟨b,o,none⟩/\news.length=ys.length*sz/\(∀j v,news[j]? =some v->w.cell? ⟨b,o+j,none⟩=some v)/\fh P w D ι ys.flatten news.toArray/\∀v∈news,v.oneCell'=true):=by
 have fin:∀b o,ys≠[]->(∀i j cs x,ys[i]? =some cs->cs[j]? =some x->∃v,w.cell? ⟨b,o+(i*sz+j),none⟩=some v/\dc P w D ι x v)->
   ∃news:List Value,news.length=ys.length*sz/\(∀j v,news[j]? =some v->w.cell? ⟨b,o+j,none⟩=some v)/\fh P w D ι ys.flatten news.toArray/\∀v∈news,v.oneCell'=true:=by
  intro b o _ h
  have hlen:=IF hl
  have at_:∀k,k<ys.length*sz->∃x,ys.flatten[k]? =some x/\∃v,w.cell? ⟨b,o+k,none⟩=some v/\dc P w D ι x v:=by
   intro k hk
   have lu:0<sz:=by
    rcases Nat.eq_zero_or_pos sz with h0|h0
    ·subst h0;simp at hk
    ·exact h0
   have hi:k / sz<ys.length:=Nat.div_lt_of_lt_mul (by rw[Nat.mul_comm];exact hk)
   have hj:k % sz<sz:=Nat.mod_lt _ lu
   have dr:=List.getElem?_eq_getElem hi
   have gN:k % sz<ys[k / sz].length:=by rw[hl _ (List.getElem_mem hi)];exact hj
   have hx:=List.getElem?_eq_getElem gN
   have e:k / sz*sz+k % sz=k:=by rw[Nat.mul_comm];exact Nat.div_add_mod _ _
   refine⟨_,by rw[<-flat_get hl dr hx,e],?_⟩
   obtain⟨v,hv,jH⟩:=h _ _ _ _ dr hx
   rw[e]at hv
   exact⟨v,hv,jH⟩
  let news:=(List.range (ys.length*sz)).map fun k=>(w.cell? ⟨b,o+k,none⟩).getD undef
  have hn:∀k,k<ys.length*sz->∀v,w.cell? ⟨b,o+k,none⟩=some v->news[k]? =some v:=fun k hk v hv=>by
   simp only[news,List.getElem?_map,List.getElem?_range hk,Option.map_some,hv,Option.getD_some]
  have hR:fh P w D ι ys.flatten news.toArray:=⟨by simp[news,hlen],fun j x hx=>by
   have gN:=(List.getElem?_eq_some_iff.1 hx).1
   rw[hlen]at gN
   obtain⟨x',tN,v,hv,jH⟩:=at_ j gN
   rw[hx]at tN;injection tN with tN;subst tN
   exact⟨v,by simpa using hn j gN v hv,jH⟩⟩
  refine⟨news,by simp[news],fun j v hj=>?_,hR,?_⟩
  ·have gN:j<ys.length*sz:=by have:=(List.getElem?_eq_some_iff.1 hj).1;simpa[news]using this
   obtain⟨x,_,v',nU,_⟩:=at_ j gN
   rw[hn j gN v' nU]at hj
   injection hj with hj
   rw[<-hj];exact nU
  ·have:=Ck hR (fun x hx=>by
    obtain⟨c,hc,Vh⟩:=List.mem_flatten.1 hx
    exact hf c hc x Vh)
   simpa using this
 unfold bj at hy
 split at hy
 ·simp at hy;subst hy
  exact⟨none,0,iR hr,.inl rfl⟩
 ·rename_i rows
  simp at hy;subst hy
  obtain⟨A,c,he,_,_,h3⟩:=wR hr
  refine⟨A,c,he,?_⟩
  rcases h3 with h3|⟨b,oo,sz',vs,rfl,hD,KI,_,hc,hi⟩
  ·exact .inl h3
  ·by_cases h0:rows=[]
   ·exact .inl h0
   ·have BE:sz'=sz:=by
     cases rows with
     |nil=>exact(h0 rfl).elim
     |cons c r=>rw[<-KI c (by simp),hl c (by simp)]
    subst BE
    obtain⟨news,q1,q2,q3,q4⟩:=fin b oo h0 (fun i j cs x dr hx=>⟨_,hc i j (List.getElem?_eq_some_iff.1 dr).1 (by rw[<-KI cs (List.mem_of_getElem? dr)];exact(List.getElem?_eq_some_iff.1 hx).1),.eP _ _ (hi i j cs x dr hx)⟩)
    exact .inr ⟨b,oo,news,rfl,q1,q2,q3,q4⟩
 ·rename_i i off len
  simp only[Option.bind_eq_some_iff]at hy
  obtain⟨r,hg,hy⟩:=hy
  split at hy
  ·rename_i hle
   simp at hy;subst hy
   obtain⟨oo,cap,B,he,hB,h1,h2,h3,h4,hk⟩:=iT hr
   obtain⟨B',dD,R,_,_⟩:=S.row i r hg
   rw[hB]at dD;injection dD with dD;subst dD
   replace R:=R.row hk
   have hlen:((r.rows.drop off).take len).length=len:=by simp;omega
   refine⟨some ⟨B.b,oo,none⟩,cap,by rw[hlen];exact he,?_⟩
   by_cases h0:(r.rows.drop off).take len=[]
   ·exact .inl h0
   ·have BE:r.sz=sz:=by
     cases hq:(r.rows.drop off).take len with
     |nil=>exact(h0 hq).elim
     |cons c q=>
      have hm:c∈(r.rows.drop off).take len:=by rw[hq];simp
      rw[<-hl c hm,R.len c (List.mem_of_mem_drop (List.mem_of_mem_take hm))]
    have hlp:0<len:=by rw[<-hlen];exact List.length_pos_iff.2 h0
    have CE:oo=off*B.sz:=by rcases h2 with h2|h2<;>omega
    obtain⟨news,q1,q2,q3,q4⟩:=fin B.b oo h0 (fun i2 j cs x dr hx=>by
     rw[List.getElem?_take]at dr
     split at dr
     ·rw[List.getElem?_drop]at dr
      obtain⟨v,hv,jH⟩:=R.at_ _ _ _ _ dr hx
      refine⟨v,?_,jH⟩
      rw[CE,R.sz,<-BE]
      rw[Nat.add_mul]at hv
      rw[<-Nat.add_assoc]
      exact hv
     ·simp at dr)
    exact .inr ⟨B.b,oo,news,rfl,q1,q2,q3,q4⟩
  ·simp at hy
 ·simp at hy
theorem o3 {t ty e:TypeId} {i:TypeInfo} (ht:P.underlying t=some (.slice e)) (hi:P.info? e=some i) (A:Option Addr) (n c:Nat) (hn:n<=c) (B:Option Addr) (d:Nat):
  (Builtin.append_ #[t,t] ty #[.slice A n c,.slice B 0 d]).run P w=.ok (.slice A n c) w:=by
 have hf:(Builtin.firstCells i.size 0 (.slice B 0 d)).run P w=.ok #[] w:=by
  cases B<;>simp[Builtin.firstCells,loadCells,loadCellsFrom]
 cases A with
 |none=>simp[Builtin.append_,run_underlying ht,sizeOf,typeInfo,hi,Builtin.lenOf,hn,hf]
 |some A=>simp[Builtin.append_,run_underlying ht,sizeOf,typeInfo,hi,Builtin.lenOf,hn,hf,storeCells]
theorem xM {t ty e T:TypeId} {i:TypeInfo} (ht:P.underlying t=some (.slice e)) (hi:P.info? e=some i) (b si Ew:Nat) (cur:Array Value) (hg:w.heap[b]? =some (.cells cur T (0,0)))
  (x:Addr) (m c:Nat) (news:List Value) (hl:news.length=m*i.size) (Ry:∀j u,news[j]? =some u->w.cell? (x.add j)=some u) (h1:∀u∈news,u.oneCell'=true)
  (gh:si+m<=Ew) (pT:si*i.size+news.length<=cur.size):
  (Builtin.append_ #[t,t] ty #[.slice (some ⟨b,0,none⟩) si Ew,.slice (some x) m c]).run P w=
   .ok (.slice (some ⟨b,0,none⟩) (si+m) Ew) (w.setRow b (cur.toList.take (si*i.size)++news++cur.toList.drop (si*i.size+news.length)).toArray):=by
 have hf:=run_firstCells_some (P:=P) w i.size m x m c news hl Ry
 have dL:=run_storeCells_at P b (si*i.size) T news 0 cur w hg (by simpa using pT) h1
 simp only[Nat.add_zero]at dL
 simp[Builtin.append_,run_underlying ht,sizeOf,typeInfo,hi,Builtin.lenOf,gh,hf,kd,dL]
theorem Bp (w:World) (G4 Cg:Nat) (e:TypeId) (h:G4<=dz):G4<=grownCap w G4 Cg e/\grownCap w G4 Cg e<=maxLen:=by
 unfold dz at h
 simp only[grownCap,Question.cut,maxLen]
 have:=Nat.mod_lt (w.tape w.drawn (.appendCap G4 Cg e)) (show 0<2 ^ 63-G4 by omega)
 omega
theorem gj {x y:Operand} {t:TypeId} {u:Value} (ho:o.op=.call {callee:=.builtin .append,args:= #[x,y],argTypes:= #[t,t]}) (h:(Builtin.append_ #[t,t] o.type #[a.eval x,a.eval y]).run P w=.ok u w'):(execOp a.eval o).run P w=.ok (.value u) w':=by
 simp only[execOp,ho,resolve,Sem.run_bind,Sem.run_pure,Result.andThen_ok,invoke,builtin]
 simp only[List.map_toArray,List.map_cons,List.map_nil]
 rw[h];rfl
theorem Cp {T:TypeId} (S:gz P hs D ι g w) (cells:Array Value) (hn:ι id=none) (B:sK):Step hs D ι w D (kh ι id B) (w.drew.alloc (.cells cells T)):=
 Step.stay S (fun k hk=>by show(w.heap.push _)[k]? = _;rw[Array.getElem?_push,if_neg (by omega)]) (by show _<=(w.heap.push _).size;simp) rfl rfl rfl (fun _ h=>h) (fun _ h=>.inl h) (fW hn)
theorem Iu {x y:Operand} {x' y':O} {t e:TypeId} {m:Nat} {z:List K} {i:TypeInfo} {ys:List (List AV)} {g':Rows} (S:gz P hs D ι g w) (E:cm P w D ι env a) (hn:ι id=none) (ho:o.op=.call {callee:=.builtin .append,args:= #[x,y],argTypes:= #[t,t]})
  (ht:P.underlying t=some (.slice e)) (fa:ei P e=some (m+1)) (hz:jF P e=some z) (hi:P.info? e=some i) (hby:i.bytes<=32768) (hx:cO P x=some x') (hy:cO P y=some y') (CO:bj g (da env y')=some ys)
  (hv:aT g id (m+1) (da env x') ys=some (v,g')):CT P hs a o w D ι id v g':=by
 have rx:=dj E hx
 have ry:=dj E hy
 obtain⟨it,zv,rh,qL,Qz,hm,Fy⟩:=jS hz
 rw[hi]at rh;injection rh with rh;subst rh
 have jB:i.size=m+1:=by simpa[ei,hi]using fa
 have fits:∀n,n<=dz->n*i.bytes<=140737488355328:=fun n h=>by
  unfold dz at h
  have:=Nat.mul_le_mul h hby
  omega
 have e63:∀n,n<=dz->(n:Int)<=9223372036854775807:=fun n h=>by unfold dz at h;omega
 have same:∀(w1:World) (cells:Array Value),w1=w.drew.alloc (.cells cells e)->w1.heap=w.heap.push (.cells cells e (0,0)):=fun w1 cells h=>by subst h;rfl
 have QI:∀l:List (List AV),(l.all fun c=>c.length==m+1&&c.all AV.cell)=true->(∀c∈l,c.length=m+1)/\∀c∈l,∀b∈c,b.cell=true:=fun l h=>by
  rw[List.all_eq_true]at h
  refine⟨fun c hc=>?_,fun c hc b hb=>?_⟩
  ·have:=h c hc;simp at this;exact this.1
  ·have:=h c hc;simp at this;exact this.2 b hb
 unfold aT at hv
 split at hv
 ·rename_i hb
  rw[hb]at rx
  have ex:=iR rx
  split at hv
  ·simp at hv
   obtain⟨rfl,rfl⟩:=hv
   obtain⟨A,c,ey,_⟩:=se (sz:=m+1) S ry CO (fun c h=>by cases h) (fun c h=>by cases h)
   refine⟨_,w,ι,.inl (gj ho (by rw[ex,ey];exact o3 ht hi none 0 0 (Nat.le_refl _) A c)),Step.refl _ _ _ _,S,.eP _ _ .bV,fun _ _=>rfl⟩
  ·rename_i y0 yr
   split at hv
   ·rename_i hc
    simp only[Option.some.injEq,Prod.mk.injEq]at hv
    obtain⟨rfl,rfl⟩:=hv
    obtain⟨hl,hf⟩:=QI _ hc.2
    obtain⟨A,c,ey,h2⟩:=se (sz:=m+1) S ry CO hl hf
    rcases h2 with h2|⟨b,oo,news,rfl,q1,q2,q3,q4⟩
    ·cases h2
    have gE:=run_append_nil (P:=P) w t o.type e i zv ht hi qL ⟨b,oo,none⟩ (y0::yr).length c news (by rw[jB];exact q1) (fun j v hj=>by rw[kd];exact q2 j v hj) (by simp) (e63 _ hc.1) (by have:=fits _ hc.1;omega)
    obtain⟨g1,g2⟩:=Bp w (y0::yr).length 0 e hc.1
    have dr:(news.toArray++Builtin.zeroCells zv.cells (grownCap w (y0::yr).length 0 e-(y0::yr).length)).size=grownCap w (y0::yr).length 0 e*(m+1):=by
     rw[Array.size_append,size_zeroCells,Qz,jB]
     simp only[List.size_toArray,q1]
     rw[<-Nat.add_mul];congr 1;omega
    have S1:=S.alloc (w':=w.drew.alloc (.cells (news.toArray++Builtin.zeroCells zv.cells (grownCap w (y0::yr).length 0 e-(y0::yr).length)) e)) (r:=⟨true,m+1,y0::yr⟩) rfl hn rfl (by rw[dr];exact Nat.mul_le_mul_right _ g1) hl hf
     (fun k j cs b2 hk hj=>by
      obtain⟨u,hu,xF⟩:=q3.2 _ _ (flat_get hl hk hj)
      refine⟨u,?_,xF⟩
      have dR:=(Array.getElem?_eq_some_iff.1 hu).1
      dsimp only
      rw[Array.getElem?_append_left dR];exact hu)
    have dL:=Cp (T:=e) S (news.toArray++Builtin.zeroCells zv.cells (grownCap w (y0::yr).length 0 e-(y0::yr).length)) hn ⟨w.heap.size,m+1,(news.toArray++Builtin.zeroCells zv.cells (grownCap w (y0::yr).length 0 e-(y0::yr).length)).size,none⟩
    refine⟨_,_,_,.inl (gj ho (by rw[ex,ey];exact gE)),dL,S1,?_,fun _ h=>gp h⟩
    refine .own _ _ _ _ _ _ (ev _ _ _) rfl g1 (.inr (by simp)) ?_ g2
    dsimp only;rw[dr];simp
   ·simp at hv
 ·rename_i i0 len hb
  rw[hb]at rx
  simp only[Option.bind_eq_some_iff]at hv
  obtain⟨r,hg,hv⟩:=hv
  split at hv
  ·rename_i hc
   obtain⟨c1,c2,c3,c4,c5⟩:=hc
   simp only[Option.some.injEq,Prod.mk.injEq]at hv
   obtain⟨rfl,rfl⟩:=hv
   obtain⟨hl,hf⟩:=QI _ c5
   obtain⟨A,c,ey,h2⟩:=se (sz:=m+1) S ry CO hl hf
   obtain⟨oo,cap,B,ex,hB,h1,CE,h3,h4,hk⟩:=iT rx
   obtain⟨B',dD,R,j5,lZ⟩:=S.row _ _ hg
   rw[hB]at dD;injection dD with dD;subst dD
   replace R:=R.row hk
   have IK:B.sz=m+1:=R.sz.trans c2
   have zJ:∀cs∈r.rows++ys,cs.length=m+1:=fun cs dr=>by
    rcases List.mem_append.1 dr with h|h
    ·rw[<-c2];exact R.len cs h
    ·exact hl cs h
   have M9:∀cs∈r.rows++ys,∀b∈cs,b.cell=true:=fun cs dr=>by
    rcases List.mem_append.1 dr with h|h
    ·exact R.flat cs h
    ·exact hf cs h
   rcases h2 with rfl|⟨yb,yo,news,rfl,q1,q2,q3,q4⟩
   ·have GD:=S.rename hg c1 hB hn
    refine⟨_,w,kh ι id B,.inl (gj ho (by rw[ex,ey];exact o3 ht hi _ _ _ h1 A c)),⟨Below.refl _ _,fun _ _=>rfl,fun _ h=>h,fW hn,fun _ h=>.inl h⟩,?_,?_,fun _ h=>gp h⟩
    ·have:(⟨true,m+1,r.rows++[]⟩:Row)=r:=by cases r;simp_all
     rw[this];exact GD
    ·simp only[List.length_nil,Nat.add_zero]
     exact .own _ _ _ _ _ B (ev _ _ _) hk h1 CE h3 h4
   ·obtain⟨cur,T,hblk,hC,vO⟩:=R.cur
    by_cases gh:len+ys.length<=cap
    ·have Tg:ys≠[]->oo=0:=fun h=>by
      rcases CE with CE|CE
      ·have:=List.length_pos_iff.2 h;omega
      ·simpa using CE
     by_cases hy0:ys=[]
     ·subst hy0
      have GD:=S.rename hg c1 hB hn
      refine⟨_,w,kh ι id B,.inl (gj ho (by rw[ex,ey];exact o3 ht hi _ _ _ h1 _ c)),⟨Below.refl _ _,fun _ _=>rfl,fun _ h=>h,fW hn,fun _ h=>.inl h⟩,?_,?_,fun _ h=>gp h⟩
      ·have:(⟨true,m+1,r.rows++[]⟩:Row)=r:=by cases r;simp_all
       rw[this];exact GD
      ·simp only[List.length_nil,Nat.add_zero]
       exact .own _ _ _ _ _ B (ev _ _ _) hk h1 CE h3 h4
     have ho0:=Tg hy0
     subst ho0
     have pT:len*i.size+news.length<=cur.size:=by
      rw[jB,q1,hC,<-Nat.add_mul]
      refine Nat.le_trans ?_ h3
      rw[IK,Nat.zero_add]
      exact Nat.mul_le_mul_right _ gh
     have gE:=xM (ty:=o.type) ht hi B.b len cap cur hblk ⟨yb,yo,none⟩ ys.length c news (by rw[jB];exact q1) (fun j v hj=>by rw[kd];exact q2 j v hj) q4 gh pT
     have nR:cur.toList.length=cur.size:=Array.length_toList
     simp only[jB]at gE pT
     obtain⟨P1,P2⟩:=S.put (r':=⟨true,m+1,r.rows++ys⟩) hg c1 hB hblk (cur':=(cur.toList.take (len*(m+1))++news++cur.toList.drop (len*(m+1)+news.length)).toArray) (by simp only[List.size_toArray,List.length_append,List.length_take,List.length_drop,nR];omega) rfl c2.symm
      (by dsimp only;rw[List.length_append,<-c3,<-IK];refine Nat.le_trans (Nat.mul_le_mul_right _ gh) (Nat.le_trans (by simp) h3)) zJ M9 (fun k j cs b2 hk hj=>by
       simp only[List.getElem?_toArray]
       have gN:j<m+1:=by rw[<-zJ cs (List.mem_of_getElem? hk)];exact(List.getElem?_eq_some_iff.1 hj).1
       rw[c2]
       by_cases kH:k<r.rows.length
       ·rw[List.getElem?_append_left kH]at hk
        have h2:k*(m+1)+j<len*(m+1):=jO (by omega) gN
        rw[List.append_assoc,List.getElem?_append_left (by simp only[List.length_take,nR];omega),List.getElem?_take,if_pos h2]
        have:=vO k j cs b2 hk hj
        rw[c2]at this;simpa using this
       ·rw[List.getElem?_append_right (by omega)]at hk
        have s4:=(List.getElem?_eq_some_iff.1 hk).1
        have qG:len*(m+1)<=k*(m+1):=Nat.mul_le_mul_right _ (by omega)
        have qI:k*(m+1)+j-len*(m+1)=(k-r.rows.length)*(m+1)+j:=by
         rw[<-c3,Nat.sub_mul];omega
        obtain⟨u,hu,xF⟩:=q3.2 _ _ (flat_get hl hk hj)
        refine⟨u,?_,xF⟩
        have Fv:news[(k-r.rows.length)*(m+1)+j]? =some u:=by simpa using hu
        have dR:=(List.getElem?_eq_some_iff.1 Fv).1
        rw[List.append_assoc,List.getElem?_append_right (by simp only[List.length_take,nR];omega),List.getElem?_append_left (by simp only[List.length_take,nR];omega)]
        rw[<-Fv]
        congr 1
        simp only[List.length_take,nR]
        omega)
     have dS:bF (cj (bF g i0 ⟨true,m+1,r.rows++ys⟩) i0) id ⟨true,m+1,r.rows++ys⟩=bF (cj g i0) id ⟨true,m+1,r.rows++ys⟩:=by
      funext q;simp only[bF,cj]
      by_cases h:q=id<;>by_cases h':q=i0<;>simp[h,h']
     have GD:=P1.rename (i:=i0) (id:=id) (r:=⟨true,m+1,r.rows++ys⟩) (by simp[bF]) rfl hB hn
     rw[dS]at GD
     refine⟨_,_,_,.inl (gj ho (by rw[ex,ey];exact gE)),P2.trans ⟨Below.refl _ _,fun _ _=>rfl,fun _ h=>h,fW hn,fun _ h=>.inl h⟩,GD,?_,fun _ h=>gp h⟩
     exact .own _ _ _ _ _ B (ev _ _ _) hk gh (.inr (by simp)) h3 h4
    ·
     have holds:∃uv:List Value,uv.length=len*(m+1)/\(∀j v,uv[j]? =some v->w.cell? ⟨B.b,oo+j,none⟩=some v)/\fh P w D ι r.rows.flatten uv.toArray:=by
      obtain⟨A2,c2',e2,h2⟩:=se (sz:=m+1) (u:=.slice (some ⟨B.b,oo,none⟩) len cap) S (.own i0 0 len oo cap B hB hk h1 CE h3 h4) (ys:=r.rows) (by simp[bj,hg,c3]) (fun cs h=>by rw[<-c2];exact R.len cs h) R.flat
      rcases h2 with h2|⟨b2,o2,uv,rfl,p1,p2,p3,_⟩
      ·refine⟨[],by simp[c3,h2],fun j v h=>by simp at h,by rw[h2];exact⟨rfl,fun j a h=>by simp at h⟩⟩
      ·injection e2 with e2 _ _
       injection e2 with e2
       injection e2 with e21 e22 _
       subst e21;subst e22
       exact⟨uv,by rw[p1,c3],p2,p3⟩
     obtain⟨uv,p1,p2,p3⟩:=holds
     have gE:=run_append_grow (P:=P) w t o.type e i zv ht hi qL ⟨B.b,oo,none⟩ len cap uv (by rw[jB];exact p1) (fun j v hj=>by rw[kd];exact p2 j v hj) ⟨yb,yo,none⟩ ys.length c news (by rw[jB];exact q1) (fun j v hj=>by rw[kd];exact q2 j v hj) (by omega) (e63 _ c4) (growslice_fits (by omega) (fits _ c4))
     obtain⟨g1,g2⟩:=Bp w (len+ys.length) cap e c4
     have dr:(uv.toArray++news.toArray++Builtin.zeroCells zv.cells (grownCap w (len+ys.length) cap e-(len+ys.length))).size=grownCap w (len+ys.length) cap e*(m+1):=by
      rw[Array.size_append,Array.size_append,size_zeroCells,Qz,jB]
      simp only[List.size_toArray,q1,p1]
      rw[<-Nat.add_mul,<-Nat.add_mul];congr 1;omega
     have S1:=(S.kill i0).alloc (id:=id) (w':=w.drew.alloc (.cells (uv.toArray++news.toArray++Builtin.zeroCells zv.cells (grownCap w (len+ys.length) cap e-(len+ys.length))) e)) (r:=⟨true,m+1,r.rows++ys⟩) rfl hn rfl (by dsimp only;rw[dr,List.length_append,<-c3];exact Nat.mul_le_mul_right _ g1) zJ M9
      (fun k j cs b2 hk hj=>by
       have DI:=flat_get zJ hk hj
       rw[List.flatten_append]at DI
       have hol:uv.length=r.rows.flatten.length:=by have:=p3.1;simpa using this
       dsimp only
       by_cases dR:k*(m+1)+j<r.rows.flatten.length
       ·rw[List.getElem?_append_left dR]at DI
        obtain⟨u,hu,xF⟩:=p3.2 _ _ DI
        refine⟨u,?_,xF⟩
        rw[Array.getElem?_append_left (by simp;omega),Array.getElem?_append_left (by simp;omega)];exact hu
       ·rw[List.getElem?_append_right (by omega)]at DI
        obtain⟨u,hu,xF⟩:=q3.2 _ _ DI
        refine⟨u,?_,xF⟩
        have By:=(Array.getElem?_eq_some_iff.1 hu).1
        simp only[List.size_toArray]at By
        rw[Array.getElem?_append_left (by simp;omega),Array.getElem?_append_right (by simp;omega)]
        simp only[List.size_toArray,hol];exact hu)
     have dL:=Cp (T:=e) S (uv.toArray++news.toArray++Builtin.zeroCells zv.cells (grownCap w (len+ys.length) cap e-(len+ys.length))) hn ⟨w.heap.size,m+1,(uv.toArray++news.toArray++Builtin.zeroCells zv.cells (grownCap w (len+ys.length) cap e-(len+ys.length))).size,none⟩
     refine⟨_,_,_,.inl (gj ho (by rw[ex,ey];exact gE)),dL,S1,?_,fun _ h=>gp h⟩
     refine .own _ _ _ _ _ _ (ev _ _ _) rfl g1 (.inr (by simp)) ?_ g2
     dsimp only;rw[dr];simp
  ·simp at hv
 ·simp at hv
theorem la {x:Operand} {t:TypeId} {u:Value} (ho:o.op=.call {callee:=.builtin .clear,args:= #[x],argTypes:= #[t]}) (h:(Builtin.clear_ #[t] o.type #[a.eval x]).run P w=.ok u w'):(execOp a.eval o).run P w=.ok (.value u) w':=by
 simp only[execOp,ho,resolve,Sem.run_bind,Sem.run_pure,Result.andThen_ok,invoke,builtin]
 simp only[List.map_toArray,List.map_cons,List.map_nil]
 rw[h];rfl
theorem Lc {x:Operand} {x':O} {t e:TypeId} {m:Nat} {z:List K} {g':Rows} (S:gz P hs D ι g w) (E:cm P w D ι env a) (ho:o.op=.call {callee:=.builtin .clear,args:= #[x],argTypes:= #[t]})
  (ht:P.underlying t=some (.slice e)) (fa:ei P e=some (m+1)) (hz:jF P e=some z) (hx:cO P x=some x') (hv:bG g z (da env x')=some g'):CT P hs a o w D ι id .undef g':=by
 have rx:=dj E hx
 obtain⟨it,zv,hi,qL,Qz,hm,Fy⟩:=jS hz
 have jB:it.size=m+1:=by simpa[ei,hi]using fa
 unfold bG at hv
 split at hv
 ·rename_i hb
  rw[hb]at rx
  simp at hv;subst hv
  refine⟨undef,w,ι,.inl (la ho (by rw[iR rx];simp only[Builtin.clear_,Sem.run_bind];simp[run_underlying ht,undef])),Step.refl _ _ _ _,S,dc.undef,fun _ _=>rfl⟩
 ·rename_i i off len hb
  rw[hb]at rx
  simp only[Option.bind_eq_some_iff]at hv
  obtain⟨r,hg,hv⟩:=hv
  split at hv
  ·rename_i hc
   obtain⟨c1,c2,c3⟩:=hc
   simp only[Option.some.injEq]at hv;subst hv
   obtain⟨oo,cap,B,ex,hB,h1,h2,h3,h4,hk⟩:=iT rx
   obtain⟨B',dD,R,j5,lZ⟩:=S.row _ _ hg
   rw[hB]at dD;injection dD with dD;subst dD
   replace R:=R.row hk
   obtain⟨cur,T,hblk,hC,vO⟩:=R.cur
   by_cases h0:len=0
   ·subst h0
    have e1:({r with rows:=r.rows.take off++List.replicate 0 (z.map K.av)++r.rows.drop (off+0)}:Row)=r:=by cases r;simp
    rw[e1]
    have e2:bF g i r=g:=by
     funext q;unfold bF;split
     ·rename_i h;rw[h,hg]
     ·rfl
    rw[e2]
    refine⟨undef,w,ι,.inl (la ho (by rw[ex];simp only[Builtin.clear_,Sem.run_bind];simp[run_underlying ht,undef])),Step.refl _ _ _ _,S,dc.undef,fun _ _=>rfl⟩
   ·have CK:oo=off*B.sz:=by rcases h2 with h2|h2<;>omega
    have IK:B.sz=m+1:=by rw[R.sz,c2,Fy,jB]
    have yu:r.sz=m+1:=by rw[<-R.sz,IK]
    have RT:zv.cells.size=m+1:=by rw[Qz,jB]
    have xn:(Builtin.zeroCells zv.cells len).toList.length=len*(m+1):=by rw[Array.length_toList,size_zeroCells,RT]
    have RS:∀k,k<len*(m+1)->∃c,z[k % z.length]? =some c/\(Builtin.zeroCells zv.cells len).toList[k]? =some c.val:=fun k hk=>by
     obtain⟨c,pS,DD⟩:=pc (n:=len*zv.cells.size) hm (by rw[Fy,jB];omega) k (by rw[RT];exact hk)
     exact⟨c,pS,by rw[Array.getElem?_toList];exact DD⟩
    have hbound:(off+len)*(m+1)<=r.rows.length*(m+1):=Nat.mul_le_mul_right _ c3
    have Bw:=R.fits
    rw[yu]at Bw
    have UC:(off+len)*(m+1)=off*(m+1)+len*(m+1):=Nat.add_mul _ _ _
    have dL:=run_storeCells_at P B.b oo T (Builtin.zeroCells zv.cells len).toList 0 cur w hblk (by rw[xn,hC,CK,IK];omega) (by
     intro v hv
     obtain⟨k,hk,rfl⟩:=List.getElem_of_mem hv
     obtain⟨c,_,DD⟩:=RS k (by rw[<-xn];exact hk)
     rw[List.getElem?_eq_getElem hk]at DD
     injection DD with DD
     rw[DD];cases c<;>rfl)
    simp only[Nat.add_zero]at dL
    have nR:cur.toList.length=cur.size:=Array.length_toList
    obtain⟨P1,P2⟩:=S.put (r':={r with rows:=r.rows.take off++List.replicate len (z.map K.av)++r.rows.drop (off+len)}) hg c1 hB hblk (cur':=(cur.toList.take oo++(Builtin.zeroCells zv.cells len).toList++cur.toList.drop (oo+(Builtin.zeroCells zv.cells len).toList.length)).toArray)
     (by simp only[List.size_toArray,List.length_append,List.length_take,List.length_drop,nR,xn];rw[CK,IK];omega) c1 rfl (by
      have:(r.rows.take off++List.replicate len (z.map K.av)++r.rows.drop (off+len)).length=r.rows.length:=by simp;omega
      dsimp only;rw[this];exact R.fits) (fun cs dr=>by
      rcases List.mem_append.1 dr with h|h
      ·rcases List.mem_append.1 h with h|h
       ·exact R.len cs (List.mem_of_mem_take h)
       ·rw[List.eq_of_mem_replicate h];simp[c2]
      ·exact R.len cs (List.mem_of_mem_drop h)) (fun cs dr b hb=>by
      rcases List.mem_append.1 dr with h|h
      ·rcases List.mem_append.1 h with h|h
       ·exact R.flat cs (List.mem_of_mem_take h) b hb
       ·rw[List.eq_of_mem_replicate h]at hb
        obtain⟨c,_,rfl⟩:=List.mem_map.1 hb;exact c.mL
      ·exact R.flat cs (List.mem_of_mem_drop h) b hb) (fun k j cs b hk hj=>by
      simp only[List.getElem?_toArray]
      rw[yu]
      rw[CK,IK,xn]
      by_cases rj:k<off
      ·rw[List.append_assoc,List.getElem?_append_left (by simp;omega),List.getElem?_take,if_pos rj]at hk
       have gN:j<m+1:=by rw[<-yu,<-R.len cs (List.mem_of_getElem? hk)];exact(List.getElem?_eq_some_iff.1 hj).1
       have h2:=jO rj gN
       rw[List.append_assoc,List.getElem?_append_left (by simp only[List.length_take,nR];omega),List.getElem?_take,if_pos h2]
       have:=vO k j cs b hk hj
       rw[yu]at this;simpa using this
      ·by_cases s4:k<off+len
       ·rw[List.append_assoc,List.getElem?_append_right (by simp;omega),List.getElem?_append_left (by simp;omega)]at hk
        have gZ:=List.eq_of_mem_replicate (List.mem_of_getElem? hk)
        subst gZ
        simp only[List.getElem?_map,Option.map_eq_some_iff]at hj
        obtain⟨q,hq,rfl⟩:=hj
        have gN:=(List.getElem?_eq_some_iff.1 hq).1
        rw[Fy,jB]at gN
        have qG:off*(m+1)<=k*(m+1):=Nat.mul_le_mul_right _ (by omega)
        have qI:k*(m+1)+j-off*(m+1)=(k-off)*(m+1)+j:=by rw[Nat.sub_mul];omega
        have By:(k-off)*(m+1)+j<len*(m+1):=jO (by omega) gN
        rw[List.append_assoc,List.getElem?_append_right (by simp only[List.length_take,nR];omega),List.getElem?_append_left (by simp only[List.length_take,nR,xn];omega)]
        obtain⟨c,pS,DD⟩:=RS _ By
        rw[Fy,jB,Nat.mul_comm (k-off),Nat.mul_add_mod,Nat.mod_eq_of_lt gN,hq]at pS
        injection pS with pS;subst pS
        refine⟨q.val,?_,wP q⟩
        rw[<-DD]
        congr 1
        simp only[List.length_take,nR];omega
       ·rw[List.getElem?_append_right (by simp;omega)]at hk
        simp only[List.length_append,List.length_take,List.length_replicate,List.getElem?_drop]at hk
        rw[show off+len+(k-(min off r.rows.length+len))=k by omega]at hk
        have kH:=(List.getElem?_eq_some_iff.1 hk).1
        have qG:(off+len)*(m+1)<=k*(m+1):=Nat.mul_le_mul_right _ (by omega)
        rw[List.getElem?_append_right (by simp only[List.length_append,List.length_take,nR,xn];omega)]
        simp only[List.length_append,List.length_take,nR,xn,List.getElem?_drop]
        rw[show off*(m+1)+len*(m+1)+(k*(m+1)+j-(min (off*(m+1)) cur.size+len*(m+1)))=k*(m+1)+j by omega]
        have:=vO k j cs b hk hj
        rw[yu]at this;simpa using this)
    refine⟨undef,_,ι,.inl (la ho ?_),P2,P1,dc.undef,fun _ _=>rfl⟩
    rw[ex]
    cases len with
    |zero=>exact(h0 rfl).elim
    |succ len=>
     simp only[Builtin.clear_,Sem.run_bind]
     simp[run_underlying ht,zeroValue,typeInfo,hi,qL,dL,undef]
  ·simp at hv
 ·simp at hv
theorem Hi {dT sT ty e:TypeId} {it:TypeInfo} (hu:P.underlying dT=some (.slice e)) (hi:P.info? e=some it) (A B:Option Addr) (si Ew Gi N6:Nat) (h0:Nat.min si Gi=0):
  (Builtin.copy_ #[dT,sT] ty #[.slice A Gi N6,.slice B si Ew]).run P w=.ok (goInt 0) w:=by
 cases A<;>cases B<;>simp[Builtin.copy_,run_underlying hu,Builtin.lenOf,Builtin.firstCells,sizeOf,typeInfo,hi,h0,storeCells,loadCells,loadCellsFrom]
theorem Hj {dT sT ty e:TypeId} {it:TypeInfo} (hu:P.underlying dT=some (.slice e)) (hi:P.info? e=some it) (A B:Addr) (si Ew Gi N6:Nat) (cs:List Value) (hn:cs.length=Nat.min si Gi*it.size) (hl:(loadCells B cs.length).run P w=.ok cs.toArray w) (hs:(storeCells A cs).run P w=.ok () w'):
  (Builtin.copy_ #[dT,sT] ty #[.slice (some A) Gi N6,.slice (some B) si Ew]).run P w=.ok (goInt (Nat.min si Gi)) w':=by
 simp[Builtin.copy_,run_underlying hu,Builtin.lenOf,Builtin.firstCells,sizeOf,typeInfo,hi,<-hn,hl,hs]
theorem qh {x y:Operand} {t t2:TypeId} {u:Value} (ho:o.op=.call {callee:=.builtin .copy,args:= #[x,y],argTypes:= #[t,t2]}) (h:(Builtin.copy_ #[t,t2] o.type #[a.eval x,a.eval y]).run P w=.ok u w'):(execOp a.eval o).run P w=.ok (.value u) w':=by
 simp only[execOp,ho,resolve,Sem.run_bind,Sem.run_pure,Result.andThen_ok,invoke,builtin]
 simp only[List.map_toArray,List.map_cons,List.map_nil]
 rw[h];rfl
theorem N7 {x y:Operand} {x' y':O} {t t2 e:TypeId} {m:Nat} {ys:List (List AV)} {v:AV} {g':Rows} (S:gz P hs D ι g w) (E:cm P w D ι env a) (ho:o.op=.call {callee:=.builtin .copy,args:= #[x,y],argTypes:= #[t,t2]})
  (ht:P.underlying t=some (.slice e)) (fa:ei P e=some (m+1)) (hx:cO P x=some x') (hy:cO P y=some y') (CO:bj g (da env y')=some ys) (hv:FR g (m+1) (da env x') ys=some (v,g')):CT P hs a o w D ι id v g':=by
 have rx:=dj E hx
 have ry:=dj E hy
 obtain⟨it,hi,jB⟩:∃it,P.info? e=some it/\it.size=m+1:=by
  cases hq:P.info? e with
  |none=>simp[ei,hq]at fa
  |some it=>exact⟨it,rfl,by simpa[ei,hq]using fa⟩
 unfold FR at hv
 split at hv
 ·rename_i i off len hb
  rw[hb]at rx
  simp only[Option.bind_eq_some_iff]at hv
  obtain⟨r,hg,hv⟩:=hv
  split at hv
  ·rename_i hc
   obtain⟨c1,c2,c3,c4⟩:=hc
   simp only[Option.some.injEq,Prod.mk.injEq]at hv
   obtain⟨rfl,rfl⟩:=hv
   rw[List.all_eq_true]at c4
   have hl:∀c∈ys,c.length=m+1:=fun c hc=>by have:=c4 c hc;simp at this;exact this.1
   have hf:∀c∈ys,∀b∈c,b.cell=true:=fun c hc b hb=>by have:=c4 c hc;simp at this;exact this.2 b hb
   obtain⟨oo,cap,B,ex,hB,h1,h2,h3,h4,hk⟩:=iT rx
   obtain⟨B',dD,R,j5,lZ⟩:=S.row _ _ hg
   rw[hB]at dD;injection dD with dD;subst dD
   replace R:=R.row hk
   obtain⟨cur,T,hblk,hC,vO⟩:=R.cur
   obtain⟨A,sc,hu,hA⟩:=se S ry CO hl hf
   by_cases h0:min ys.length len=0
   ·rw[h0]
    have e1:({r with rows:=r.rows.take off++ys.take 0++r.rows.drop (off+0)}:Row)=r:=by cases r;simp
    rw[e1]
    have e2:bF g i r=g:=by
     funext q;unfold bF;split
     ·rename_i h;rw[h,hg]
     ·rfl
    rw[e2]
    refine⟨goInt 0,w,ι,.inl (qh ho (by rw[ex,hu];exact Hi ht hi _ _ _ _ _ _ h0)),Step.refl _ _ _ _,S,.eP _ _ (.int _ _),fun _ _=>rfl⟩
   ·rcases hA with rfl|⟨b,o2,news,rfl,Az,hsrc,hR,h1c⟩
    ·simp at h0
    have Rv:Nat.min ys.length len=min ys.length len:=rfl
    have hky:min ys.length len<=ys.length:=Nat.min_le_left _ _
    have kH:min ys.length len<=len:=Nat.min_le_right _ _
    generalize UO:min ys.length len=kk at *
    have hlen0:len≠0:=by omega
    have CK:oo=off*B.sz:=by rcases h2 with h2|h2<;>omega
    have IK:B.sz=m+1:=by rw[R.sz,c2]
    have yu:r.sz=m+1:=c2
    have S7:kk*(m+1)<=ys.length*(m+1):=Nat.mul_le_mul_right _ hky
    have xn:(news.take (kk*(m+1))).length=kk*(m+1):=by rw[List.length_take,Az];omega
    have hbound:(off+kk)*(m+1)<=r.rows.length*(m+1):=Nat.mul_le_mul_right _ (by omega)
    have Bw:=R.fits
    rw[yu]at Bw
    have UC:(off+kk)*(m+1)=off*(m+1)+kk*(m+1):=Nat.add_mul _ _ _
    have dL:=run_storeCells_at P B.b oo T (news.take (kk*(m+1))) 0 cur w hblk (by rw[xn,hC,CK,IK];omega) (fun v hv=>h1c v (List.mem_of_mem_take hv))
    have Ta:=run_loadCells_list (P:=P) w ⟨b,o2,none⟩ (news.take (kk*(m+1))) (fun j v hj=>by
     rw[List.getElem?_take]at hj
     split at hj
     ·have:=hsrc j v hj
      cases j with
      |zero=>simpa[Addr.add]using this
      |succ j=>simpa[Addr.add]using this
     ·cases hj)
    simp only[Nat.add_zero]at dL
    have nR:cur.toList.length=cur.size:=Array.length_toList
    have KN:(ys.take kk).length=kk:=by rw[List.length_take];omega
    obtain⟨P1,P2⟩:=S.put (r':={r with rows:=r.rows.take off++ys.take kk++r.rows.drop (off+kk)}) hg c1 hB hblk (cur':=(cur.toList.take oo++news.take (kk*(m+1))++cur.toList.drop (oo+(news.take (kk*(m+1))).length)).toArray)
     (by simp only[List.size_toArray,List.length_append,List.length_drop,nR,xn];rw[List.length_take,nR,CK,IK];omega) c1 rfl (by
      have:(r.rows.take off++ys.take kk++r.rows.drop (off+kk)).length=r.rows.length:=by simp;omega
      dsimp only;rw[this];exact R.fits) (fun cs dr=>by
      rcases List.mem_append.1 dr with h|h
      ·rcases List.mem_append.1 h with h|h
       ·exact R.len cs (List.mem_of_mem_take h)
       ·rw[hl cs (List.mem_of_mem_take h)];exact c2.symm
      ·exact R.len cs (List.mem_of_mem_drop h)) (fun cs dr b hb=>by
      rcases List.mem_append.1 dr with h|h
      ·rcases List.mem_append.1 h with h|h
       ·exact R.flat cs (List.mem_of_mem_take h) b hb
       ·exact hf cs (List.mem_of_mem_take h) b hb
      ·exact R.flat cs (List.mem_of_mem_drop h) b hb) (fun k j cs b hk hj=>by
      simp only[List.getElem?_toArray]
      rw[yu]
      rw[CK,IK,xn]
      by_cases rj:k<off
      ·rw[List.append_assoc,List.getElem?_append_left (by simp;omega),List.getElem?_take,if_pos rj]at hk
       have gN:j<m+1:=by rw[<-yu,<-R.len cs (List.mem_of_getElem? hk)];exact(List.getElem?_eq_some_iff.1 hj).1
       have h2:=jO rj gN
       rw[List.append_assoc,List.getElem?_append_left (by simp only[List.length_take,nR];omega),List.getElem?_take,if_pos h2]
       have:=vO k j cs b hk hj
       rw[yu]at this;simpa using this
      ·by_cases s4:k<off+kk
       ·rw[List.append_assoc,List.getElem?_append_right (by simp;omega),List.getElem?_append_left (by simp;omega)]at hk
        simp only[List.length_take]at hk
        rw[show k-min off r.rows.length=k-off by omega,List.getElem?_take,if_pos (by omega)]at hk
        have gN:j<m+1:=by rw[<-hl cs (List.mem_of_getElem? hk)];exact(List.getElem?_eq_some_iff.1 hj).1
        have qG:off*(m+1)<=k*(m+1):=Nat.mul_le_mul_right _ (by omega)
        have qI:k*(m+1)+j-off*(m+1)=(k-off)*(m+1)+j:=by rw[Nat.sub_mul];omega
        have By:(k-off)*(m+1)+j<kk*(m+1):=jO (by omega) gN
        rw[List.append_assoc,List.getElem?_append_right (by simp only[List.length_take,nR];omega),List.getElem?_append_left (by rw[xn];simp only[List.length_take,nR];omega)]
        obtain⟨u,RI,hu2⟩:=hR.2 ((k-off)*(m+1)+j) b (flat_get hl hk hj)
        refine⟨u,?_,hu2⟩
        rw[List.getElem?_take]
        simp only[List.length_take,nR]
        rw[show k*(m+1)+j-min (off*(m+1)) cur.size=(k-off)*(m+1)+j by omega,if_pos By]
        simpa using RI
       ·rw[List.getElem?_append_right (by simp;omega)]at hk
        simp only[List.length_append,List.length_take,List.getElem?_drop]at hk
        rw[show off+kk+(k-(min off r.rows.length+min kk ys.length))=k by omega]at hk
        have kH:=(List.getElem?_eq_some_iff.1 hk).1
        have qG:(off+kk)*(m+1)<=k*(m+1):=Nat.mul_le_mul_right _ (by omega)
        rw[List.getElem?_append_right (by rw[List.length_append,xn];simp only[List.length_take,nR];omega)]
        rw[List.getElem?_drop,List.length_append,xn]
        simp only[List.length_take,nR]
        rw[show off*(m+1)+kk*(m+1)+(k*(m+1)+j-(min (off*(m+1)) cur.size+kk*(m+1)))=k*(m+1)+j by omega]
        have:=vO k j cs b hk hj
        rw[yu]at this;simpa using this)
    refine⟨goInt kk,_,ι,.inl (qh ho ?_),P2,P1,.eP _ _ (.int _ _),fun _ _=>rfl⟩
    rw[ex,hu]
    have:=Hj (w:=w) (sT:=t2) (ty:=o.type) ht hi ⟨B.b,oo,none⟩ ⟨b,o2,none⟩ ys.length sc len cap _ (by rw[xn,Rv,jB]) Ta dL
    rw[Rv]at this
    exact this
  ·simp at hv
 ·simp at hv
end
end Go.Proofs.YtgoelphibofcmaaGreat.V

namespace Go.Proofs.YtgoelphibofcmaaGreat.V
open Go.RowKit
variable {P:Program} {w w':World} {D D' D2:Nat->Prop} {ι ι' ι2:Names}
section
variable {g:Rows} {hs:Nat}
theorem gD:∀{n:Nat} {l r:List AV},cG g n l=some r->r.length=l.length/\∀(j:Nat) (b:AV),r[j]? =some b->∃a,l[j]? =some a/\fz g n a=some b
 |n,[],r,h=>by
  rw[cG]at h;simp at h;subst h;simp
 |n,a::l,r,h=>by
  rw[cG]at h
  split at h
  ·rename_i b hb
   simp only[Option.map_eq_some_iff]at h
   obtain⟨r',hr,rfl⟩:=h
   obtain⟨h1,h2⟩:=gD hr
   refine⟨by simp[h1],fun j c hj=>?_⟩
   cases j with
   |zero=>simp at hj;subst hj;exact⟨a,rfl,hb⟩
   |succ j=>simp at hj ⊢;exact h2 j c hj
  ·simp at h
theorem vM:∀{n:Nat} {l r:List (List AV)},eo g n l=some r->r.length=l.length/\∀(j:Nat) (b:List AV),r[j]? =some b->∃a,l[j]? =some a/\cG g n a=some b
 |n,[],r,h=>by
  rw[eo]at h;simp at h;subst h;simp
 |n,a::l,r,h=>by
  rw[eo]at h
  split at h
  ·rename_i b hb
   simp only[Option.map_eq_some_iff]at h
   obtain⟨r',hr,rfl⟩:=h
   obtain⟨h1,h2⟩:=vM hr
   refine⟨by simp[h1],fun j c hj=>?_⟩
   cases j with
   |zero=>simp at hj;subst hj;exact⟨a,rfl,hb⟩
   |succ j=>simp at hj ⊢;exact h2 j c hj
  ·simp at h
theorem rP (hD:∀b,D b->D2 b) (xV:∀id row,g id=some row->row.w=true->∃B,ι id=some B/\ia P w D ι B row/\D2 B.b):∀(n:Nat) (a:AV) (u:Value) (r:AV),dc P w D ι a u->fz g n a=some r->dc P w D2 ι2 r u/\(a.cell=true->jC P w D2 r u/\r.cell=true):=by
 intro n
 induction n with
 |zero=>intro a u r _ h;rw[fz]at h;simp at h
 |succ n ih=>
  intro a u r hr h
  have both:∀{r:AV},jC P w D2 r u->r.cell=true->dc P w D2 ι2 r u/\(a.cell=true->jC P w D2 r u/\r.cell=true):=fun h1 h2=>⟨.eP _ _ h1,fun _=>⟨h1,h2⟩⟩
  cases a with
  |map id m=>rw[fz]at h;cases h
  |rK id=>rw[fz]at h;cases h
  |own id off len=>
   rw[fz]at h
   split at h
   ·rename_i row hg
    split at h
    ·rename_i hw
     split at h
     ·rename_i hle
      simp only[Option.map_eq_some_iff]at h
      obtain⟨rows,rU,rfl⟩:=h
      obtain⟨B,hB,R,On⟩:=xV id row hg hw
      obtain⟨o,cap,B',rfl,dD,h1,h2,h3,h4,hk⟩:=iT hr
      rw[hB]at dD;injection dD with dD;subst dD
      replace R:=R.row hk
      obtain⟨l1,l2⟩:=vM rU
      have hlen:rows.length=len:=by rw[l1];simp;omega
      by_cases h0:rows=[]
      ·subst h0
       simp at hlen;subst hlen
       exact both (.AG _ _ h4) rfl
      ·have hlp:0<len:=by rw[<-hlen];exact List.length_pos_iff.2 h0
       have ho:o=off*B.sz:=by rcases h2 with h2|h2<;>omega
       have src:∀i cs,rows[i]? =some cs->∃c0,row.rows[off+i]? =some c0/\cG g n c0=some cs:=fun i cs hi=>by
        obtain⟨c0,jG,hf⟩:=l2 i cs hi
        rw[List.getElem?_take]at jG
        split at jG
        ·rw[List.getElem?_drop]at jG;exact⟨c0,jG,hf⟩
        ·simp at jG
       have cell:∀i j,i<len->j<row.sz->∃c0 a0 v,row.rows[off+i]? =some c0/\c0[j]? =some a0/\w.cell? ⟨B.b,o+(i*row.sz+j),none⟩=some v/\dc P w D ι a0 v:=fun i j hi hj=>by
        have rh:off+i<row.rows.length:=by omega
        have e1:=List.getElem?_eq_getElem rh
        have KG:j<row.rows[off+i].length:=by rw[R.len _ (List.getElem_mem rh)];exact hj
        obtain⟨v,hv,jH⟩:=R.at_ _ _ _ _ e1 (List.getElem?_eq_getElem KG)
        refine⟨_,_,v,e1,List.getElem?_eq_getElem KG,?_,jH⟩
        rw[ho,R.sz,<-hv]
        congr 2
        rw[Nat.add_mul];omega
       refine both (.sl rows B.b o len cap row.sz (fun i j=>(w.cell? ⟨B.b,o+(i*row.sz+j),none⟩).getD undef) hlen h1 h4 On (fun cs dr=>?_) (fun cs dr b hb=>?_) (fun i j hi hj=>?_) (fun i j cs b hi hj=>?_)) rfl
       ·obtain⟨i,hi,rfl⟩:=List.getElem_of_mem dr
        obtain⟨c0,jG,hf⟩:=src i _ (List.getElem?_eq_getElem hi)
        rw[(gD hf).1];exact R.len c0 (List.mem_of_getElem? jG)
       ·obtain⟨i,hi,rfl⟩:=List.getElem_of_mem dr
        obtain⟨c0,jG,hf⟩:=src i _ (List.getElem?_eq_getElem hi)
        obtain⟨j,hj,rfl⟩:=List.getElem_of_mem hb
        obtain⟨a0,ll,IV⟩:=(gD hf).2 j _ (List.getElem?_eq_getElem hj)
        obtain⟨v,_,jH⟩:=R.at_ _ _ _ _ jG ll
        exact((ih _ _ _ jH IV).2 (R.flat c0 (List.mem_of_getElem? jG) a0 (List.mem_of_getElem? ll))).2
       ·obtain⟨c0,a0,v,_,_,hv,_⟩:=cell i j hi hj
        simp only[hv,Option.getD_some]
       ·obtain⟨c0,jG,hf⟩:=src i cs hi
        obtain⟨a0,ll,IV⟩:=(gD hf).2 j b hj
        have nG:i<len:=by rw[<-hlen];exact(List.getElem?_eq_some_iff.1 hi).1
        have gN:j<row.sz:=by rw[<-R.len c0 (List.mem_of_getElem? jG)];exact(List.getElem?_eq_some_iff.1 ll).1
        obtain⟨c1,a1,v,e1,e2,hv,jH⟩:=cell i j nG gN
        rw[jG]at e1;injection e1 with e1;subst e1
        rw[ll]at e2;injection e2 with e2;subst e2
        simp only[hv,Option.getD_some]
        exact((ih _ _ _ jH IV).2 (R.flat c0 (List.mem_of_getElem? jG) a0 (List.mem_of_getElem? ll))).1
     ·simp at h
    ·simp at h
   ·simp at h
  |ptr id i off=>
   rw[fz]at h
   split at h
   ·rename_i row hg
    split at h
    ·rename_i hw
     split at h
     ·rename_i c0 jG
      simp only[Option.map_eq_some_iff]at h
      obtain⟨cs,dr,rfl⟩:=h
      obtain⟨B,hB,R,On⟩:=xV id row hg hw
      obtain⟨B',rfl,dD,hk⟩:=iU hr
      rw[hB]at dD;injection dD with dD;subst dD
      replace R:=R.row hk
      obtain⟨l1,l2⟩:=gD dr
      have at_:∀j b,cs[j]? =some b->∃a0 v,w.cell? ⟨B.b,i*B.sz+off+j,none⟩=some v/\dc P w D ι a0 v/\a0.cell=true/\fz g n a0=some b:=fun j b hj=>by
       obtain⟨a0,ll,hf⟩:=l2 j b hj
       rw[List.getElem?_drop]at ll
       obtain⟨v,hv,jH⟩:=R.at_ _ _ _ _ jG ll
       refine⟨a0,v,?_,jH,R.flat c0 (List.mem_of_getElem? jG) a0 (List.mem_of_getElem? ll),hf⟩
       rw[R.sz,Nat.add_assoc];exact hv
      refine both (.dm cs B.b _ (fun j=>(w.cell? ⟨B.b,i*B.sz+off+j,none⟩).getD undef) On (fun b hb=>?_) (fun j hj=>?_) (fun j b hj=>?_)) rfl
      ·obtain⟨j,hj,rfl⟩:=List.getElem_of_mem hb
       obtain⟨a0,v,_,jH,hc,hf⟩:=at_ j _ (List.getElem?_eq_getElem hj)
       exact((ih _ _ _ jH hf).2 hc).2
      ·obtain⟨a0,v,hv,_⟩:=at_ j _ (List.getElem?_eq_getElem hj)
       simp only[hv,Option.getD_some]
      ·obtain⟨a0,v,hv,jH,hc,hf⟩:=at_ j b hj
       simp only[hv,Option.getD_some]
       exact((ih _ _ _ jH hf).2 hc).1
     ·simp at h
    ·simp at h
   ·simp at h
  |agg cs=>
   rw[fz]at h
   simp only[Option.map_eq_some_iff]at h
   obtain⟨r',nW,rfl⟩:=h
   obtain⟨vs,f,rfl,h1,h2,h3,h4⟩:=iz hr
   obtain⟨l1,l2⟩:=gD nW
   have hI:jC P w D2 (.agg r') (.agg vs):=.agg r' vs f (by rw[h1,l1]) (fun b hb=>by
    obtain⟨j,hj,rfl⟩:=List.getElem_of_mem hb
    obtain⟨a0,ll,hf⟩:=l2 j _ (List.getElem?_eq_getElem hj)
    exact((ih _ _ _ (h4 j a0 ll) hf).2 (h2 a0 (List.mem_of_getElem? ll))).2) (fun j hj=>h3 j (by rw[<-l1];exact hj)) (fun j b hj=>by
    obtain⟨a0,ll,hf⟩:=l2 j b hj
    exact((ih _ _ _ (h4 j a0 ll) hf).2 (h2 a0 (List.mem_of_getElem? ll))).1)
   exact⟨.eP _ _ hI,fun hc=>by simp[AV.cell]at hc⟩
  |iC cs=>
   rw[fz]at h
   simp only[Option.map_eq_some_iff]at h
   obtain⟨r',nW,rfl⟩:=h
   obtain⟨vs,f,rfl,h1,h3,h4⟩:=uN hr
   obtain⟨l1,l2⟩:=gD nW
   exact⟨.iC r' vs f (by rw[h1,l1]) (fun j hj=>h3 j (by rw[<-l1];exact hj)) (fun j b hj=>by
    obtain⟨a0,ll,hf⟩:=l2 j b hj
    exact(ih _ _ _ (h4 j a0 ll) hf).1),fun hc=>by simp[AV.cell]at hc⟩
  |fn f cZ=>
   rw[fz]at h
   split at h
   ·rename_i dQ
    simp only[Option.map_eq_some_iff]at h
    obtain⟨r',nW,rfl⟩:=h
    obtain⟨vs,q,rfl,h0,h1,h3,h4⟩:=wO hr
    obtain⟨l1,l2⟩:=gD nW
    exact both (.fn f r' vs q h0 (by rw[h1,l1]) (fun j hj=>h3 j (by rw[<-l1];exact hj)) (fun j b hj=>by
     obtain⟨a0,ll,hf⟩:=l2 j b hj
     exact((ih _ _ _ (h4 j a0 ll) hf).2 (List.all_eq_true.1 dQ a0 (List.mem_of_getElem? ll))).1)) rfl
   ·simp at h
  |int k m=>rw[fz]at h<;>(try simp at h)<;>(try subst h)<;>(try(rw[dp hr];exact⟨.eP _ _ (.int _ _),fun _=>⟨.int _ _,rfl⟩⟩))<;>(try(intros;simp_all))
  |bool b=>rw[fz]at h<;>(try simp at h)<;>(try subst h)<;>(try(rw[e7 hr];exact⟨.eP _ _ (.bool _),fun _=>⟨.bool _,rfl⟩⟩))<;>(try(intros;simp_all))
  |str b=>rw[fz]at h<;>(try simp at h)<;>(try subst h)<;>(try(rw[fD hr];exact⟨.eP _ _ (.str _),fun _=>⟨.str _,rfl⟩⟩))<;>(try(intros;simp_all))
  |bV=>rw[fz]at h<;>(try simp at h)<;>(try subst h)<;>(try(rw[iR hr];exact⟨.eP _ _ .bV,fun _=>⟨.bV,rfl⟩⟩))<;>(try(intros;simp_all))
  |jb=>rw[fz]at h<;>(try simp at h)<;>(try subst h)<;>(try(rw[wQ hr];exact⟨.eP _ _ .jb,fun _=>⟨.jb,rfl⟩⟩))<;>(try(intros;simp_all))
  |jk=>rw[fz]at h<;>(try simp at h)<;>(try subst h)<;>(try(rw[Cm hr];exact⟨.eP _ _ .jk,fun _=>⟨.jk,rfl⟩⟩))<;>(try(intros;simp_all))
  |tT f cZ=>rw[fz]at h<;>(try simp at h)<;>(try(intros;simp_all))
  |gP=>rw[fz]at h<;>(try simp at h)<;>(try subst h)<;>(try(cases hr with|eP _ _ hr=>exact both (hr.frame (fun _ _=>rfl) hD) rfl))<;>(try(intros;simp_all))
  |sl rows=>rw[fz]at h<;>(try simp at h)<;>(try subst h)<;>(try(cases hr with|eP _ _ hr=>exact both (hr.frame (fun _ _=>rfl) hD) rfl))<;>(try(intros;simp_all))
  |dm cs=>rw[fz]at h<;>(try simp at h)<;>(try subst h)<;>(try(cases hr with|eP _ _ hr=>exact both (hr.frame (fun _ _=>rfl) hD) rfl))<;>(try(intros;simp_all))
theorem iW:∀{n:Nat} {l r:List AV},ew g n l=some r->r.length=l.length/\∀(j:Nat) (b:AV),r[j]? =some b->∃a,l[j]? =some a/\gy g n a=some b
 |n,[],r,h=>by
  rw[ew]at h;simp at h;subst h;simp
 |n,a::l,r,h=>by
  rw[ew]at h
  split at h
  ·rename_i b hb
   simp only[Option.map_eq_some_iff]at h
   obtain⟨r',hr,rfl⟩:=h
   obtain⟨h1,h2⟩:=iW hr
   refine⟨by simp[h1],fun j c hj=>?_⟩
   cases j with
   |zero=>simp at hj;subst hj;exact⟨a,rfl,hb⟩
   |succ j=>simp at hj ⊢;exact h2 j c hj
  ·simp at h
theorem tH:∀{n:Nat} {l r:List (List AV)},ib g n l=some r->r.length=l.length/\∀(j:Nat) (b:List AV),r[j]? =some b->∃a,l[j]? =some a/\ew g n a=some b
 |n,[],r,h=>by
  rw[ib]at h;simp at h;subst h;simp
 |n,a::l,r,h=>by
  rw[ib]at h
  split at h
  ·rename_i b hb
   simp only[Option.map_eq_some_iff]at h
   obtain⟨r',hr,rfl⟩:=h
   obtain⟨h1,h2⟩:=tH hr
   refine⟨by simp[h1],fun j c hj=>?_⟩
   cases j with
   |zero=>simp at hj;subst hj;exact⟨a,rfl,hb⟩
   |succ j=>simp at hj ⊢;exact h2 j c hj
  ·simp at h
theorem Gu (xV:∀id row,g id=some row->row.w=true->∃B,ι id=some B/\ia P w D ι B row/\D2 B.b):∀(n:Nat) (a:AV) (u:Value) (r:AV),dc P w D ι a u->gy g n a=some r->dc P w D2 ι2 r u/\(a.cell=true->jC P w D2 r u/\r.cell=true):=by
 intro n
 induction n with
 |zero=>intro a u r _ h;rw[gy]at h;simp at h
 |succ n ih=>
  intro a u r hr h
  have both:∀{r:AV},jC P w D2 r u->r.cell=true->dc P w D2 ι2 r u/\(a.cell=true->jC P w D2 r u/\r.cell=true):=fun h1 h2=>⟨.eP _ _ h1,fun _=>⟨h1,h2⟩⟩
  cases a with
  |map id m=>rw[gy]at h<;>simp_all
  |rK id=>rw[gy]at h<;>simp_all
  |own id off len=>
   rw[gy]at h
   split at h
   ·rename_i row hg
    split at h
    ·rename_i hw
     split at h
     ·rename_i hle
      simp only[Option.map_eq_some_iff]at h
      obtain⟨rows,rU,rfl⟩:=h
      obtain⟨B,hB,R,On⟩:=xV id row hg hw
      obtain⟨o,cap,B',rfl,dD,h1,h2,h3,h4,hk⟩:=iT hr
      rw[hB]at dD;injection dD with dD;subst dD
      replace R:=R.row hk
      obtain⟨l1,l2⟩:=tH rU
      have hlen:rows.length=len:=by rw[l1];simp;omega
      by_cases h0:rows=[]
      ·subst h0
       simp at hlen;subst hlen
       exact both (.AG _ _ h4) rfl
      ·have hlp:0<len:=by rw[<-hlen];exact List.length_pos_iff.2 h0
       have ho:o=off*B.sz:=by rcases h2 with h2|h2<;>omega
       have src:∀i cs,rows[i]? =some cs->∃c0,row.rows[off+i]? =some c0/\ew g n c0=some cs:=fun i cs hi=>by
        obtain⟨c0,jG,hf⟩:=l2 i cs hi
        rw[List.getElem?_take]at jG
        split at jG
        ·rw[List.getElem?_drop]at jG;exact⟨c0,jG,hf⟩
        ·simp at jG
       have cell:∀i j,i<len->j<row.sz->∃c0 a0 v,row.rows[off+i]? =some c0/\c0[j]? =some a0/\w.cell? ⟨B.b,o+(i*row.sz+j),none⟩=some v/\dc P w D ι a0 v:=fun i j hi hj=>by
        have rh:off+i<row.rows.length:=by omega
        have e1:=List.getElem?_eq_getElem rh
        have KG:j<row.rows[off+i].length:=by rw[R.len _ (List.getElem_mem rh)];exact hj
        obtain⟨v,hv,jH⟩:=R.at_ _ _ _ _ e1 (List.getElem?_eq_getElem KG)
        refine⟨_,_,v,e1,List.getElem?_eq_getElem KG,?_,jH⟩
        rw[ho,R.sz,<-hv]
        congr 2
        rw[Nat.add_mul];omega
       refine both (.sl rows B.b o len cap row.sz (fun i j=>(w.cell? ⟨B.b,o+(i*row.sz+j),none⟩).getD undef) hlen h1 h4 On (fun cs dr=>?_) (fun cs dr b hb=>?_) (fun i j hi hj=>?_) (fun i j cs b hi hj=>?_)) rfl
       ·obtain⟨i,hi,rfl⟩:=List.getElem_of_mem dr
        obtain⟨c0,jG,hf⟩:=src i _ (List.getElem?_eq_getElem hi)
        rw[(iW hf).1];exact R.len c0 (List.mem_of_getElem? jG)
       ·obtain⟨i,hi,rfl⟩:=List.getElem_of_mem dr
        obtain⟨c0,jG,hf⟩:=src i _ (List.getElem?_eq_getElem hi)
        obtain⟨j,hj,rfl⟩:=List.getElem_of_mem hb
        obtain⟨a0,ll,IV⟩:=(iW hf).2 j _ (List.getElem?_eq_getElem hj)
        obtain⟨v,_,jH⟩:=R.at_ _ _ _ _ jG ll
        exact((ih _ _ _ jH IV).2 (R.flat c0 (List.mem_of_getElem? jG) a0 (List.mem_of_getElem? ll))).2
       ·obtain⟨c0,a0,v,_,_,hv,_⟩:=cell i j hi hj
        simp only[hv,Option.getD_some]
       ·obtain⟨c0,jG,hf⟩:=src i cs hi
        obtain⟨a0,ll,IV⟩:=(iW hf).2 j b hj
        have nG:i<len:=by rw[<-hlen];exact(List.getElem?_eq_some_iff.1 hi).1
        have gN:j<row.sz:=by rw[<-R.len c0 (List.mem_of_getElem? jG)];exact(List.getElem?_eq_some_iff.1 ll).1
        obtain⟨c1,a1,v,e1,e2,hv,jH⟩:=cell i j nG gN
        rw[jG]at e1;injection e1 with e1;subst e1
        rw[ll]at e2;injection e2 with e2;subst e2
        simp only[hv,Option.getD_some]
        exact((ih _ _ _ jH IV).2 (R.flat c0 (List.mem_of_getElem? jG) a0 (List.mem_of_getElem? ll))).1
     ·simp at h
    ·simp at h
   ·simp at h
  |ptr id i off=>
   rw[gy]at h
   split at h
   ·rename_i row hg
    split at h
    ·rename_i hw
     split at h
     ·rename_i c0 jG
      simp only[Option.map_eq_some_iff]at h
      obtain⟨cs,dr,rfl⟩:=h
      obtain⟨B,hB,R,On⟩:=xV id row hg hw
      obtain⟨B',rfl,dD,hk⟩:=iU hr
      rw[hB]at dD;injection dD with dD;subst dD
      replace R:=R.row hk
      obtain⟨l1,l2⟩:=iW dr
      have at_:∀j b,cs[j]? =some b->∃a0 v,w.cell? ⟨B.b,i*B.sz+off+j,none⟩=some v/\dc P w D ι a0 v/\a0.cell=true/\gy g n a0=some b:=fun j b hj=>by
       obtain⟨a0,ll,hf⟩:=l2 j b hj
       rw[List.getElem?_drop]at ll
       obtain⟨v,hv,jH⟩:=R.at_ _ _ _ _ jG ll
       refine⟨a0,v,?_,jH,R.flat c0 (List.mem_of_getElem? jG) a0 (List.mem_of_getElem? ll),hf⟩
       rw[R.sz,Nat.add_assoc];exact hv
      refine both (.dm cs B.b _ (fun j=>(w.cell? ⟨B.b,i*B.sz+off+j,none⟩).getD undef) On (fun b hb=>?_) (fun j hj=>?_) (fun j b hj=>?_)) rfl
      ·obtain⟨j,hj,rfl⟩:=List.getElem_of_mem hb
       obtain⟨a0,v,_,jH,hc,hf⟩:=at_ j _ (List.getElem?_eq_getElem hj)
       exact((ih _ _ _ jH hf).2 hc).2
      ·obtain⟨a0,v,hv,_⟩:=at_ j _ (List.getElem?_eq_getElem hj)
       simp only[hv,Option.getD_some]
      ·obtain⟨a0,v,hv,jH,hc,hf⟩:=at_ j b hj
       simp only[hv,Option.getD_some]
       exact((ih _ _ _ jH hf).2 hc).1
     ·simp at h
    ·simp at h
   ·simp at h
  |agg cs=>
   rw[gy]at h
   simp only[Option.map_eq_some_iff]at h
   obtain⟨r',nW,rfl⟩:=h
   obtain⟨vs,f,rfl,h1,h2,h3,h4⟩:=iz hr
   obtain⟨l1,l2⟩:=iW nW
   have hI:jC P w D2 (.agg r') (.agg vs):=.agg r' vs f (by rw[h1,l1]) (fun b hb=>by
    obtain⟨j,hj,rfl⟩:=List.getElem_of_mem hb
    obtain⟨a0,ll,hf⟩:=l2 j _ (List.getElem?_eq_getElem hj)
    exact((ih _ _ _ (h4 j a0 ll) hf).2 (h2 a0 (List.mem_of_getElem? ll))).2) (fun j hj=>h3 j (by rw[<-l1];exact hj)) (fun j b hj=>by
    obtain⟨a0,ll,hf⟩:=l2 j b hj
    exact((ih _ _ _ (h4 j a0 ll) hf).2 (h2 a0 (List.mem_of_getElem? ll))).1)
   exact⟨.eP _ _ hI,fun hc=>by simp[AV.cell]at hc⟩
  |iC cs=>
   rw[gy]at h
   simp only[Option.map_eq_some_iff]at h
   obtain⟨r',nW,rfl⟩:=h
   obtain⟨vs,f,rfl,h1,h3,h4⟩:=uN hr
   obtain⟨l1,l2⟩:=iW nW
   exact⟨.iC r' vs f (by rw[h1,l1]) (fun j hj=>h3 j (by rw[<-l1];exact hj)) (fun j b hj=>by
    obtain⟨a0,ll,hf⟩:=l2 j b hj
    exact(ih _ _ _ (h4 j a0 ll) hf).1),fun hc=>by simp[AV.cell]at hc⟩
  |fn f cZ=>rw[gy]at h<;>(try simp at h)<;>(try(intros;simp_all))
  |int k m=>rw[gy]at h<;>(try simp at h)<;>(try subst h)<;>(try(rw[dp hr];exact⟨.eP _ _ (.int _ _),fun _=>⟨.int _ _,rfl⟩⟩))<;>(try(intros;simp_all))
  |bool b=>rw[gy]at h<;>(try simp at h)<;>(try subst h)<;>(try(rw[e7 hr];exact⟨.eP _ _ (.bool _),fun _=>⟨.bool _,rfl⟩⟩))<;>(try(intros;simp_all))
  |str b=>rw[gy]at h<;>(try simp at h)<;>(try subst h)<;>(try(rw[fD hr];exact⟨.eP _ _ (.str _),fun _=>⟨.str _,rfl⟩⟩))<;>(try(intros;simp_all))
  |bV=>rw[gy]at h<;>(try simp at h)<;>(try subst h)<;>(try(rw[iR hr];exact⟨.eP _ _ .bV,fun _=>⟨.bV,rfl⟩⟩))<;>(try(intros;simp_all))
  |jb=>rw[gy]at h<;>(try simp at h)<;>(try subst h)<;>(try(rw[wQ hr];exact⟨.eP _ _ .jb,fun _=>⟨.jb,rfl⟩⟩))<;>(try(intros;simp_all))
  |jk=>rw[gy]at h<;>(try simp at h)<;>(try subst h)<;>(try(rw[Cm hr];exact⟨.eP _ _ .jk,fun _=>⟨.jk,rfl⟩⟩))<;>(try(intros;simp_all))
  |tT f cZ=>rw[gy]at h<;>(try simp at h)<;>(try(intros;simp_all))
  |gP=>rw[gy]at h<;>(try simp at h)<;>(try subst h)<;>(try(cases hr with|eP _ _ hr=>cases hr;exact both .gP rfl))<;>(try(intros;simp_all))
  |sl rows=>rw[gy]at h<;>(try simp at h)<;>(try(intros;simp_all))
  |dm cs=>rw[gy]at h<;>(try simp at h)<;>(try(intros;simp_all))
end
end Go.Proofs.YtgoelphibofcmaaGreat.V

namespace Go.Proofs.YtgoelphibofcmaaGreat.V
open Go.RowKit
variable {P:Program} {w w':World} {D D':Nat->Prop} {ι ι':Names}
section
variable {g:Rows} {hs:Nat} {env:Env} {a:Act} {o:Oper} {id:Id} {v:AV}
theorem gz.HA (S:gz P hs D ι g w) {i:Id} {r r':Row} {B:sK} {ob:Obj} (hid:g i=some r) (hw:r.w=true) (hB:ι i=some B)
  (hR:(∀a v,dc P w D ι a v->dc P {w with heap:=w.heap.setIfInBounds B.b ob} D ι a v)->(w.heap.setIfInBounds B.b ob)[B.b]? =some ob->ia P {w with heap:=w.heap.setIfInBounds B.b ob} D ι B r'):
  gz P hs D ι (bF g i r') {w with heap:=w.heap.setIfInBounds B.b ob}/\Step hs D ι w D ι {w with heap:=w.heap.setIfInBounds B.b ob}:=by
 obtain⟨B0,xj,R,j5,lZ⟩:=S.row i r hid
 rw[hB]at xj;injection xj with xj;subst xj
 have other:∀b,b≠B.b->(w.heap.setIfInBounds B.b ob)[b]? =w.heap[b]? :=fun b hb=>by simp[Ne.symm hb]
 have hd:∀b,D b->(w.heap.setIfInBounds B.b ob)[b]? =w.heap[b]? :=fun b hb=>other b (by rintro rfl;exact lZ hw hb)
 have hr:∀a v,dc P w D ι a v->dc P {w with heap:=w.heap.setIfInBounds B.b ob} D ι a v:=fun a v h=>h.frame hd (fun _ h=>h) (fun _ _ h=>h)
 refine⟨⟨by simpa using S.lo,fun b hb=>by simpa using S.dead b hb,fun j q h=>?_,fun j j' q q' C C' h h' RD hC Dw he=>?_⟩,⟨⟨rfl,rfl,rfl,by simp,fun k hk=>other k (by have:=j5 hw;omega)⟩,hd,fun _ h=>h,fun _ _ h=>h,fun _ h=>.inl h⟩⟩
 ·unfold bF at h
  split at h
  ·rename_i e
   subst e
   injection h with h;subst h
   exact⟨B,hB,hR hr (by simp[R.lt]),fun _=>j5 hw,fun _=>lZ hw⟩
  ·rename_i e
   obtain⟨C,hC,RC,k1,k2⟩:=S.row j q h
   refine⟨C,hC,RC.frame (other C.b (fun Nd=>e ?_)) hr,k1,k2⟩
   exact(S.inj i j r q B C hid h hw hB hC Nd.symm).symm
 ·unfold bF at h h'
  have get:∀j p,(if j=i then some r' else g j)=some p->∃p0,g j=some p0/\(p.w=true->p0.w=true):=fun j p hp=>by
   split at hp
   ·rename_i e;subst e;injection hp with hp;subst hp;exact⟨r,hid,fun _=>hw⟩
   ·exact⟨p,hp,fun h=>h⟩
  obtain⟨p,hp,Qp⟩:=get _ _ h
  obtain⟨p',OU,_⟩:=get _ _ h'
  exact S.inj j j' p p' C C' hp OU (Qp RD) hC Dw he
theorem Fe {s:TS} {x y:AV} {u v:Value} (he:fY s x y=some true) (hx:dc P w D ι x u) (hy:dc P w D ι y v):u=v/\∀n,Instr.sameBits n u v=true:=by
 unfold fY at he
 split at he
 ·split at he
  ·rename_i hk
   subst hk
   simp at he;subst he
   rw[dp hx,dp hy]
   exact⟨rfl,fun n=>by cases n<;>simp[Instr.sameBits]⟩
  ·cases he
 ·simp at he;subst he
  rw[e7 hx,e7 hy]
  exact⟨rfl,fun n=>by cases n<;>simp[Instr.sameBits]⟩
 ·simp at he;subst he
  rw[fD hx,fD hy]
  exact⟨rfl,fun n=>by cases n<;>simp[Instr.sameBits,Ic]⟩
 ·cases he
theorem Bc {n:Nat}:∀{ts:List TS} {xs ys:List AV} {vs us:List Value},eU ts xs ys=some true->vs.length=xs.length->us.length=ys.length->(∀(j:Nat) (a:AV),xs[j]? =some a->∃u,vs[j]? =some u/\dc P w D ι a u)->(∀(j:Nat) (a:AV),ys[j]? =some a->∃u,us[j]? =some u/\dc P w D ι a u)->
  us.length=vs.length/\(us.zip vs).all (fun p=>Instr.sameBits n p.1 p.2)=true
 |[],[],[],vs,us,_,h1,h2,_,_=>by
  cases vs<;>cases us<;>simp_all
 |[],x::xs,ys,vs,us,h,_,_,_,_=>by simp[eU]at h
 |[],[],y::ys,vs,us,h,_,_,_,_=>by simp[eU]at h
 |t::ts,[],ys,vs,us,h,_,_,_,_=>by simp[eU]at h
 |t::ts,x::xs,[],vs,us,h,_,_,_,_=>by simp[eU]at h
 |t::ts,x::xs,y::ys,[],us,h,h1,_,_,_=>by simp at h1
 |t::ts,x::xs,y::ys,v::vs,[],h,_,h2,_,_=>by simp at h2
 |t::ts,x::xs,y::ys,v::vs,u::us,h,h1,h2,hx,hy=>by
  unfold eU at h
  split at h
  ·rename_i a b ha hb
   simp only[Option.some.injEq,Bool.and_eq_true]at h
   obtain⟨rfl,rfl⟩:=h
   obtain⟨v',nU,rv⟩:=hx 0 x rfl
   obtain⟨u',Fv,ru⟩:=hy 0 y rfl
   simp at nU Fv;subst nU;subst Fv
   obtain⟨e1,e2⟩:=Fe ha rv ru
   obtain⟨q1,q2⟩:=Bc (n:=n) hb (by simpa using h1) (by simpa using h2) (fun j a hj=>by simpa using hx (j+1) a (by simpa using hj)) (fun j a hj=>by simpa using hy (j+1) a (by simpa using hj))
   refine⟨by simp[q1],?_⟩
   simp only[List.zip_cons_cons,List.all_cons,q2,Bool.and_true]
   rw[<-e1]
   have:=e2 n
   rw[<-e1]at this
   exact this
  ·cases h
theorem B9 {m:MK} {key:List AV}:∀{rows:List (List AV)} {i j:Nat},gi m key rows i=some (some j)->∃cs,i<=j/\rows[j-i]? =some cs/\eU m.ts key (cs.take m.ks)=some true
 |[],i,j,h=>by simp[gi]at h
 |cs::rows,i,j,h=>by
  unfold gi at h
  split at h
  ·rename_i hq
   simp at h;subst h
   exact⟨cs,Nat.le_refl _,by simp,hq⟩
  ·obtain⟨c,h1,h2,h3⟩:=B9 h
   exact⟨c,by omega,by rw[show j-i=(j-(i+1))+1 by omega];simpa using h2,h3⟩
  ·cases h
theorem wu {m:MK} {k:AV} {rows:List (List AV)} {fi:Option Nat} (h:fV m k rows=some fi):k.isAgg=m.ka/\k.cells.length=m.ks/\(k.cells.all AV.cell=true)/\gi m k.cells rows 0=some fi:=by
 unfold fV at h
 split at h
 ·rename_i hc;exact⟨hc.1,hc.2.1,hc.2.2,h⟩
 ·cases h
theorem JN {m:MK} {k y:AV} (h1:k.isAgg=m.ka) (h2:k.cells.length=m.ks):part m.ka m.ks (k.cells++[y])=some k/\(k.cells++[y])[m.ks]? =some y:=by
 refine⟨?_,by rw[List.getElem?_append_right (by omega),h2,Nat.sub_self];rfl⟩
 cases hk:m.ka with
 |false=>
  rw[hk]at h1
  rw[vC h1];rfl
 |true=>
  rw[hk]at h1
  cases k<;>simp[AV.isAgg]at h1
  rename_i cs
  simp only[AV.cells]at h2 ⊢
  simp only[part,if_true]
  rw[if_pos (by simp;omega),<-h2,List.take_left']
  rfl
theorem stays {k:TypeId} {m:MK} (hK:EX P k m) {key kv:AV} {u Cg:Value} {cs:List AV} (h1:key.isAgg=m.ka) (hr:dc P w D ι key u) (hp:part m.ka m.ks cs=some kv) (ho:dc P w D ι kv Cg) (he:eU m.ts key.cells (cs.take m.ks)=some true):(Instr.keyThatStays Cg u).run P w=.ok u w:=by
 have hs:Instr.sameBits 10000 Cg u=true:=by
  rcases hK with⟨s,rfl,hs⟩|⟨fs,ts,rfl,rQ,xG,dL,dQ⟩
  ·rw[vC h1]at he
   cases cs with
   |nil=>simp[part]at hp
   |cons c l=>
    simp[part]at hp;subst hp
    simp only[MK.ks,List.length_cons,List.length_nil,Nat.zero_add,List.take_succ_cons,List.take_zero,eU]at he
    cases hq:fY s key c with
    |none=>rw[hq]at he;simp at he
    |some b=>
     rw[hq]at he;simp at he;subst he
     obtain⟨e1,e2⟩:=Fe hq hr ho
     rw[<-e1]
     have:=e2 10000
     rwa [<-e1]at this
  ·cases key<;>simp[AV.isAgg]at h1
   rename_i ks
   simp only[part,if_true]at hp
   split at hp
   ·simp only[Option.some.injEq]at hp;subst hp
    obtain⟨vs,rfl,n1,r1⟩:=sb hr
    obtain⟨us,rfl,n2,r2⟩:=sb ho
    obtain⟨q1,q2⟩:=Bc (n:=9999) (vs:=vs.toList) (us:=us.toList) he (by simpa[AV.cells]using n1) (by simpa using n2) (fun j a hj=>by simpa using r1 j a hj) (fun j a hj=>by simpa using r2 j a hj)
    simp only[Instr.sameBits,Bool.and_eq_true,beq_iff_eq]
    exact⟨by simpa using q1,q2⟩
   ·cases hp
 simp[Instr.keyThatStays,hs]
theorem J4 {es:Array MapEntry} {clock:Nat} (h:F3 es clock) (k v:Value):F3 (es.push ⟨k,v,clock⟩) (clock+1):=by
 refine⟨fun x hx=>?_,?_⟩
 ·simp only[Array.toList_push,List.mem_append,List.mem_singleton]at hx
  rcases hx with hx|rfl
  ·have:=h.1 x hx;omega
  ·exact Nat.lt_succ_self _
 ·simp only[Array.toList_push,List.map_append,List.map_cons,List.map_nil]
  refine List.nodup_append.2 ⟨h.2,by simp,fun a ha b hb=>?_⟩
  obtain⟨x,hx,rfl⟩:=List.mem_map.1 ha
  simp at hb;subst hb
  have:=h.1 x hx;omega
theorem EF {es:Array MapEntry} {clock:Nat} (h:F3 es clock) (j:Nat) (k v:Value):F3 (es.modify j fun e=>{e with key:=k,val:=v}) clock:=by
 have e:(es.modify j fun e=>{e with key:=k,val:=v}).toList.map (·.born)=es.toList.map (·.born):=by
  refine List.ext_getElem? fun i=>?_
  simp only[List.getElem?_map,Array.getElem?_toList,Array.getElem?_modify]
  split
  ·cases es[i]? <;>rfl
  ·rfl
 refine⟨fun x hx=>?_,by rw[e];exact h.2⟩
 have hb:x.born∈(es.modify j fun e=>{e with key:=k,val:=v}).toList.map (·.born):=List.mem_map_of_mem hx
 rw[e]at hb
 obtain⟨y,hy,hyb⟩:=List.mem_map.1 hb
 rw[<-hyb];exact h.1 y hy
theorem Hn {es:Array MapEntry} {clock:Nat} (h:F3 es clock) {j:Nat} (hj:j<es.size):F3 (es.eraseIdxIfInBounds j) clock:=by
 have e:(es.eraseIdxIfInBounds j).toList=es.toList.eraseIdx j:=by
  unfold Array.eraseIdxIfInBounds
  rw[dif_pos hj,Array.toList_eraseIdx]
 refine⟨fun x hx=>h.1 x ((List.eraseIdx_sublist _ _).subset (by rwa [e]at hx)),?_⟩
 rw[e]
 exact((List.eraseIdx_sublist es.toList j).map (·.born)).nodup h.2
theorem Bi {k y:AV} (h1:k.cells.all AV.cell=true) (h2:y.cell=true):∀a∈k.cells++[y],a.cell=true:=fun a ha=>by
 rcases List.mem_append.1 ha with ha|ha
 ·exact List.all_eq_true.1 h1 a ha
 ·rw[List.mem_singleton.1 ha];exact h2
theorem N9 {t:TypeId} {x k y:Operand} {m:MK} {z:K} {x' k' y':O} {g':Rows} (S:gz P hs D ι g w) (E:cm P w D ι env a) (ho:o.op=.mapUpdate t x k y∨o.op=.insert t x k y) (hc:sQ P t=some (m,z)) (hx:cO P x=some x') (hk:cO P k=some k') (hy:cO P y=some y')
  (hv:bE (.set m) [da env x',da env k',da env y'] g=some g'):CT P hs a o w D ι id .undef g':=by
 obtain⟨kt,e,i,zv,ht,hi,qL,S9,hK⟩:=rH hc
 simp only[bE,Option.bind_eq_some_iff]at hv
 obtain⟨p,hp,fi,Ax,hv⟩:=hv
 split at hv
 ·rename_i hcond
  obtain⟨hw,hyc,_⟩:=hcond
  simp only[Option.some.injEq]at hv;subst hv
  obtain⟨B,hu,hg,hB,uG,es,clock,hb,fa,hlen,hM⟩:=zP S (dj E hx) hp
  have rk:=dj E hk
  have ry:=dj E hy
  obtain⟨KD,res,hf,hF⟩:=vJ (B:=B) hK rk fa hM Ax
  obtain⟨k1,k2,k3,k4⟩:=wu Ax
  obtain⟨B',dD,R,_⟩:=S.row p.1 p.2 hg
  rw[hB]at dD;injection dD with dD;subst dD
  obtain⟨pk1,pk2⟩:=JN (y:=da env y') k1 k2
  have eZ:(getObj B.b).run P w=.ok (.map es clock) w:=MapKept.run_getObj_map hb
  rcases hF with⟨rfl,rfl⟩|⟨j,en,rfl,he,rfl⟩
  ·have nT:=S.HA (ob:=.map (es.push ⟨a.eval k,a.eval y,clock⟩) (clock+1)) (r':={p.2 with rows:=dE p.2.rows ((da env k').cells++[da env y']) none}) hg hw hB fun hr kQ=>⟨R.sz,fun cs dr=>?_,fun xl=>(by rw[uG]at xl;cases xl),fun m' Bz=>?_,fun c hc=>(by rw[uG]at hc;cases hc)⟩
   ·refine⟨undef,_,ι,.inr ⟨?_,rfl⟩,nT.2,nT.1,dc.undef,fun _ _=>rfl⟩
    rcases ho with ho|ho<;>
    ·simp only[execOp,ho,Instr.mapUpdate,hu,Sem.run_bind,run_underlying ht,Result.andThen_ok,eZ,KD,hf,MapKept.run_setObj_map _ hb,Sem.run_pure]
   ·rcases List.mem_append.1 dr with h|h
    ·exact R.flat cs h
    ·rw[List.mem_singleton.1 h];exact Bi k3 hyc
   ·rw[uG]at Bz;simp only[Option.some.injEq,BK.map.injEq]at Bz;subst Bz
    refine⟨(R.map m uG).1,_,_,kQ,by simp[dE,fa],⟨fun cs dr=>?_,J4 hlen.2 _ _⟩,fun q cs hq=>?_⟩
    ·rcases List.mem_append.1 dr with h|h
     ·exact hlen.1 cs h
     ·rw[List.mem_singleton.1 h];simp[k2]
    ·rcases Nat.lt_or_ge q p.2.rows.length with dR|qG
     ·simp only[dE]at hq
      rw[List.getElem?_append_left dR]at hq
      obtain⟨en,kv,vv,q1,q2,q3,q4,q5⟩:=hM q cs hq
      exact⟨en,kv,vv,by rw[Array.getElem?_push_lt (by omega)];rw[Array.getElem?_eq_getElem (by omega)]at q1;simpa using q1,q2,q3,hr _ _ q4,hr _ _ q5⟩
     ·simp only[dE]at hq
      rw[List.getElem?_append_right qG]at hq
      have hq0:q=p.2.rows.length:=by
       have:=(List.getElem?_eq_some_iff.1 hq).1
       simp at this;omega
      subst hq0
      simp at hq;subst hq
      exact⟨⟨a.eval k,a.eval y,clock⟩,_,_,by rw[<-fa];simp,pk1,pk2,hr _ _ rk,hr _ _ ry⟩
  ·simp only[Nat.zero_add]at k4 Ax hf ⊢
   obtain⟨P8,_,Lr,heq⟩:=B9 k4
   simp only[Nat.sub_zero]at Lr
   obtain⟨TQ,kv,vv,q1,q2,_,q4,_⟩:=hM j P8 Lr
   have DG:TQ=en:=by
    have h1:es.toList[j]? =some TQ:=by simpa using q1
    rw[he]at h1;injection h1 with h1;exact h1.symm
   subst DG
   have dL:=stays (w:=w) hK k1 rk q2 q4 heq
   have nT:=S.HA (ob:=.map (es.modify j fun e=>{e with key:=a.eval k,val:=a.eval y}) clock) (r':={p.2 with rows:=dE p.2.rows ((da env k').cells++[da env y']) (some j)}) hg hw hB fun hr kQ=>⟨R.sz,fun cs dr=>?_,fun xl=>(by rw[uG]at xl;cases xl),fun m' Bz=>?_,fun c hc=>(by rw[uG]at hc;cases hc)⟩
   ·refine⟨undef,_,ι,.inr ⟨?_,rfl⟩,nT.2,nT.1,dc.undef,fun _ _=>rfl⟩
    rcases ho with ho|ho<;>
    ·simp only[execOp,ho,Instr.mapUpdate,hu,Sem.run_bind,run_underlying ht,Result.andThen_ok,eZ,KD,hf,q1,Option.map_some,Option.getD_some,dL,MapKept.run_setObj_map _ hb,Sem.run_pure]
   ·rcases List.mem_or_eq_of_mem_set dr with h|h
    ·exact R.flat cs h
    ·rw[h];exact Bi k3 hyc
   ·rw[uG]at Bz;simp only[Option.some.injEq,BK.map.injEq]at Bz;subst Bz
    have gN:=(List.getElem?_eq_some_iff.1 Lr).1
    refine⟨(R.map m uG).1,_,_,kQ,by simp[dE,fa],⟨fun cs dr=>?_,EF hlen.2 _ _ _⟩,fun q cs hq=>?_⟩
    ·rcases List.mem_or_eq_of_mem_set dr with h|h
     ·exact hlen.1 cs h
     ·rw[h];simp[k2]
    ·simp only[dE,List.getElem?_set]at hq
     split at hq
     ·rename_i Qi
      subst Qi
      (try rw[if_pos gN]at hq)
      injection hq with hq;subst hq
      exact⟨{TQ with key:=a.eval k,val:=a.eval y},_,_,by rw[Array.getElem?_modify];simp[q1],pk1,pk2,hr _ _ rk,hr _ _ ry⟩
     ·rename_i Qi
      obtain⟨en,kv,vv,q1,q2,q3,q4,q5⟩:=hM q cs hq
      exact⟨en,kv,vv,by rw[Array.getElem?_modify];simp[Qi,q1],q2,q3,hr _ _ q4,hr _ _ q5⟩
 ·cases hv
theorem N8 {t t':TypeId} {x k:Operand} {m:MK} {z:K} {x' k':O} {g':Rows} (S:gz P hs D ι g w) (E:cm P w D ι env a) (ho:o.op=.call {callee:=.builtin .delete,args:= #[x,k],argTypes:= #[t,t']}) (hc:sQ P t=some (m,z)) (hx:cO P x=some x') (hk:cO P k=some k')
  (hv:bE (.del m) [da env x',da env k'] g=some g'):CT P hs a o w D ι id .undef g':=by
 obtain⟨kt,e,i,zv,ht,hi,qL,S9,hK⟩:=rH hc
 simp only[bE,Option.bind_eq_some_iff]at hv
 obtain⟨p,hp,fi,Ax,hv⟩:=hv
 split at hv
 ·rename_i hw
  simp only[Option.some.injEq]at hv;subst hv
  obtain⟨B,hu,hg,hB,uG,es,clock,hb,fa,hlen,hM⟩:=zP S (dj E hx) hp
  have rk:=dj E hk
  obtain⟨KD,res,hf,hF⟩:=vJ (B:=B) hK rk fa hM Ax
  obtain⟨k1,k2,k3,k4⟩:=wu Ax
  obtain⟨B',dD,R,_⟩:=S.row p.1 p.2 hg
  rw[hB]at dD;injection dD with dD;subst dD
  have eZ:(getObj B.b).run P w=.ok (.map es clock) w:=MapKept.run_getObj_map hb
  have go:∀ob,(Builtin.delete_ #[t,t'] o.type #[a.eval x,a.eval k]).run P w=.ok (.tuple #[]) {w with heap:=w.heap.setIfInBounds B.b ob}->(execOp a.eval o).run P w=.ok (.value undef) {w with heap:=w.heap.setIfInBounds B.b ob}:=fun ob h=>by
   simp only[execOp,ho,resolve,Sem.run_bind,Sem.run_pure,Result.andThen_ok,invoke,builtin,Array.map]
   simp[h,undef]
  rcases hF with⟨rfl,rfl⟩|⟨j,en,rfl,he,rfl⟩
  ·have nT:=S.HA (ob:=.map es clock) (r':={p.2 with rows:=dJ p.2.rows none}) hg hw hB fun hr kQ=>⟨R.sz,R.flat,fun xl=>(by rw[uG]at xl;cases xl),fun m' Bz=>?_,fun c hc=>(by rw[uG]at hc;cases hc)⟩
   ·refine⟨undef,_,ι,.inl (go _ ?_),nT.2,nT.1,dc.undef,fun _ _=>rfl⟩
    simp[Builtin.delete_,hu,run_underlying ht,eZ,KD,hf,MapKept.run_setObj_map _ hb]
   ·rw[uG]at Bz;simp only[Option.some.injEq,BK.map.injEq]at Bz;subst Bz
    exact⟨(R.map m uG).1,_,_,kQ,fa,hlen,fun q cs hq=>by
     obtain⟨en,kv,vv,q1,q2,q3,q4,q5⟩:=hM q cs hq
     exact⟨en,kv,vv,q1,q2,q3,hr _ _ q4,hr _ _ q5⟩⟩
  ·simp only[Nat.zero_add]at hf ⊢
   have gN:j<es.size:=by have:=(List.getElem?_eq_some_iff.1 he).1;simpa using this
   have nT:=S.HA (ob:=.map (es.eraseIdxIfInBounds j) clock) (r':={p.2 with rows:=dJ p.2.rows (some j)}) hg hw hB fun hr kQ=>⟨R.sz,fun cs dr=>R.flat cs (List.mem_of_mem_eraseIdx dr),fun xl=>(by rw[uG]at xl;cases xl),fun m' Bz=>?_,fun c hc=>(by rw[uG]at hc;cases hc)⟩
   ·refine⟨undef,_,ι,.inl (go _ ?_),nT.2,nT.1,dc.undef,fun _ _=>rfl⟩
    simp[Builtin.delete_,hu,run_underlying ht,eZ,KD,hf,MapKept.run_setObj_map _ hb]
   ·rw[uG]at Bz;simp only[Option.some.injEq,BK.map.injEq]at Bz;subst Bz
    have he2:∀q,(es.eraseIdxIfInBounds j)[q]? =(es.toList.eraseIdx j)[q]? :=fun q=>by
     unfold Array.eraseIdxIfInBounds
     rw[dif_pos gN,<-Array.getElem?_toList,Array.toList_eraseIdx]
    refine⟨(R.map m uG).1,_,_,kQ,by simp[dJ,Array.eraseIdxIfInBounds,gN,List.length_eraseIdx,<-fa],⟨fun cs dr=>hlen.1 cs (List.mem_of_mem_eraseIdx dr),Hn hlen.2 gN⟩,fun q cs hq=>?_⟩
    simp only[dJ,List.getElem?_eraseIdx]at hq
    split at hq
    ·rename_i dR
     obtain⟨en,kv,vv,q1,q2,q3,q4,q5⟩:=hM q cs hq
     exact⟨en,kv,vv,by rw[he2,List.getElem?_eraseIdx,if_pos dR];simpa using q1,q2,q3,hr _ _ q4,hr _ _ q5⟩
    ·rename_i dR
     obtain⟨en,kv,vv,q1,q2,q3,q4,q5⟩:=hM (q+1) cs hq
     exact⟨en,kv,vv,by rw[he2,List.getElem?_eraseIdx,if_neg dR];simpa using q1,q2,q3,hr _ _ q4,hr _ _ q5⟩
 ·cases hv
end
end Go.Proofs.YtgoelphibofcmaaGreat.V
