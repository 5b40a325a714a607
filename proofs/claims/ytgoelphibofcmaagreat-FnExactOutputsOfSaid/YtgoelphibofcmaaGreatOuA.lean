/- A small language in which the program's functions are read by value: its values, its operations, its code, and how the program's code is brought into it. -/
import Derived.WalkKit
import Derived.WalkSpells
import Derived.WalkLawsBesides
import Derived.Lib.Hide
import Derived.Great.BuildSlice
import Derived.Conc.LoneCalls
import Derived.MapKept
import Derived.WideKeyRuns
set_option linter.unusedVariables false
set_option linter.unusedSimpArgs false
set_option maxRecDepth 100000
set_option maxHeartbeats 16000000
namespace Go.Proofs.YtgoelphibofcmaaGreat.V
open Go.RowKit
structure Id where
  site:Nat
  bE:Nat
  deriving DecidableEq,Repr
inductive TS where
  |tI|tB|tS
  deriving Repr,DecidableEq
structure MK where
  ka:Bool
  ts:List TS
  deriving Repr,DecidableEq
inductive AV where
  |int (k:IntKind) (n:Int)
  |bool (b:Bool)
  |str (s:ByteArray)
  |bD|gT|jo
  |sl (rows:List (List AV))
  |own (id:Id) (off len:Nat)
  |ptr (id:Id) (i off:Nat)
  |du (cs:List AV)
  |agg (cs:List AV)
  |gD (vs:List AV)
  |fn (f:Nat) (dp:List AV)
  |map (id:Id) (m:MK)
  |jy
  |uE (f:Nat) (first:List AV)
  |r6 (id:Id)
  deriving Inhabited
def AV.undef:AV:=.gD []
def AV.cell:AV->Bool
  | .agg _| .gD _=>false
  |_=>true
def AV.cells:AV->List AV
  | .agg cs=>cs
  |v=>[v]
inductive K where
  |int (k:IntKind) (n:Int)
  |bool (b:Bool)
  |str (l:List UInt8)
  |bD|gT|jo|jy
  deriving Repr,DecidableEq
def K.val:K->Value
  | .int k n=>.int k n
  | .bool b=>.bool b
  | .str l=>.string ⟨l.toArray⟩
  | .bD=>.slice none 0 0
  | .gT=>.pointer none
  | .jo=>.nilFunc
  | .jy=>.map none
def K.av:K->AV
  | .int k n=>.int k n
  | .bool b=>.bool b
  | .str l=>.str ⟨l.toArray⟩
  | .bD=>.bD
  | .gT=>.gT
  | .jo=>.jo
  | .jy=>.jy
def HR:Value->Option K
  | .int k n=>some (.int k n)
  | .bool b=>some (.bool b)
  | .string s=>some (.str s.data.toList)
  | .slice none 0 0=>some .bD
  | .pointer none=>some .gT
  | .nilFunc=>some .jo
  | .map none=>some .jy
  |_=>none
inductive O where
  |t (n:Nat)
  |k (c:K)
  |ka (cs:List K)
  |f (n:Nat)
  deriving Repr,DecidableEq
inductive MQ where
  |new (m:MK)
  |look (m:MK) (ok:Bool) (zero:K)
  |len (m:MK)
  deriving Repr,DecidableEq
inductive MW where
  |set (m:MK)
  |del (m:MK)
  deriving Repr,DecidableEq
inductive gN where
  |dz (x:O)
  |pick (c a b:O)
  |new (zero:List K)
  |box (x:O)
  |build (zero:List K) (parts:List (Nat×Nat×O))
  |mc (sz len:Nat) (parts:List O)
  |load (agg:Bool) (n:Nat) (a:O)
  |store (n:Nat) (a x:O)
  |BB (x:O)
  |bin (op:BinOp) (k:IntKind) (x y:O)
  |sh (left:Bool) (x y:O)
  |MA (op:BinOp) (x y:O)
  |Pq (neg:Bool) (t:TS) (x y:O)
  |T9 (neg:Bool) (ts:List TS) (x y:O)
  |Sc (neg Nj:Bool) (x:O)
  |Ua (neg:Bool) (x:O)
  |not (x:O)
  |neg (x:O)
  |conv (k:IntKind) (x:O)
  |Gb (x:O)
  |slice (sz:Nat) (x:O) (lo hi:Option O)
  |Be (x:O) (lo hi:Option O)
  |gp (off:Nat) (x:O)
  |field (agg:Bool) (off n:Nat) (x:O)
  |dY (sz:Nat) (x i:O)
  |Nb (len sz:Nat) (x i:O)
  |Nd (x i:O)
  |eY (agg:Bool) (len n:Nat) (x i:O)
  |extract (i:Nat) (x:O)
  |len (x:O)
  |Nq (x:O)
  |append (sz:Nat) (x y:O)
  |copy (sz:Nat) (x y:O)
  |clear (zero:List K) (x:O)
  |Nv (f:Nat) (dp:List O)
  |Nw (f:Nat) (first:List O)
  |kg (zero:List K) (len cap:O)
  |call (f:Nat) (args:List O)
  |um (x:O) (args:List O)
  |mq (q:MQ) (xs:List O)
  |mw (q:MW) (xs:List O)
  |KS (x:O)
  |KJ (x:O)
  |snd (x y:O)
  |QG (x:O)
  |bad
  deriving Repr,DecidableEq
structure br where
  dst:Option Nat
  op:gN
  guard:Option (Nat×Bool)
  site:Nat
  hid:List Nat
  deriving Repr,DecidableEq
def q (d:Nat) (op:gN) (s:Nat):br:=⟨some d,op,none,s,[]⟩
inductive VC where
  |skip
  |eS (draw:Bool) (ops:List br)
  |seq (a b:VC)
  |cond (c:O) (x y:VC)
  |block (id:Nat) (c:VC)
  |loop (c:VC)
  |exit (id:Nat)
  |ret
  |one (o:br) (c:VC)
  |both (a b:VC)
  |loc (t s:Nat) (y:O) (c:VC)
  |Pg (ops:List br)
  deriving Repr,DecidableEq
inductive ox where
  |tmp (t:Nat)
  |cell (agg:Bool) (n:Nat) (t:Nat)
  deriving Repr,DecidableEq
structure BA where
  ntmps:Nat
  zE:Nat
  body:VC
  res:List ox
  deriving Repr,DecidableEq
def ga (P:Program) (f:Nat):Bool:=
  match P.funcs[f]? with
  |some fn=>fn.body.isSome&& !(fn.name== "runtime.NumGoroutine")
  |none=>false
def cO (P:Program):Operand->Option O
  | .tmp t=>some (.t t)
  | .const (.agg cs)=>(cs.toList.mapM HR).map O.ka
  | .const v=>(HR v).map O.k
  | .global _=>none
  | .func f=>if ga P f then some (.f f)else none
def jV (P:Program) (t:TypeId):Option (List K):=
  match P.info? t with
  |some i=>match i.zero with
    |some v=>if v.cells.size=i.size then v.cells.toList.mapM HR else none
    |none=>none
  |none=>none
def eE (P:Program) (t:TypeId):Option Nat:=(P.info? t).map (·.size)
def oF (P:Program) (t:TypeId):Option Bool:=
  match P.underlying t with
  |some (.struct _)|some (.array _ _)=>some true
  |some _=>some false
  |none=>none
inductive U3 where
  |sc (t:TS)|ag (ts:List TS)
  deriving Repr,DecidableEq
def fI (P:Program) (t:TypeId):Option TS:=
  match P.underlying t with
  |some .bool=>some .tB
  |some (.int _)=>some .tI
  |some .string=>some .tS
  |_=>none
def EB (P:Program) (inner:List Field->Option (List TS)):Nat->List Field->Option (List TS)
  |_,[]=>some []
  |off,f::r=>
    if f.offset=off/\f.name≠ "_" then
      match fI P f.type with
      |some t=>if oF P f.type=some false then(EB P inner (off+1) r).map (t::·)else none
      |none=>match P.underlying f.type with
        |some (.struct fs)=>if !P.stoodInHeld f.type then match inner fs.toList with
          |some ts=>if eE P f.type=some ts.length/\ts≠[]then(EB P inner (off+ts.length) r).map (ts++·)else none
          |none=>none else none
        |_=>none
    else none
def eT (P:Program):Nat->Nat->List Field->Option (List TS)
  |0,_,[]=>some []
  |0,_,_::_=>none
  |d+1,off,fs=>EB P (eT P d 0) off fs
def Vg (P:Program) (t:TypeId):Option U3:=
  match fI P t with
  |some s=>some (.sc s)
  |none=>match P.underlying t with
    |some (.struct fs)=>if !P.stoodInHeld t&& !P.eqGuardType P.depth t then(eT P 4 0 fs.toList).map U3.ag else none
    |_=>none
def tq (P:Program) (fs:Array Field):List (Nat×O)->Option (List (Nat×Nat×O))
  |[]=>some []
  |(i,x)::r=>match fs[i]? with
    |some f=>match eE P f.type with
      |some n=>(tq P fs r).map ((f.offset,n,x)::·)
      |none=>none
    |none=>none
def tx (P:Program) (ps:Array (Nat×Operand)):Option (List (Nat×O)):=ps.toList.mapM fun(i,x)=>(cO P x).map (i,·)
def r4 (P:Program):Option Operand->Option (Option O)
  |none=>some none
  |some x=>(cO P x).map some
def tr (P:Program) (neg:Bool) (t:TypeId) (x y:Operand):Option gN:=
  match y with
  | .const (.slice none 0 0)=>match P.underlying t with
    |some (.slice _)=>(cO P x).map (gN.Sc neg false)
    |_=>none
  | .const .nilFunc=>match P.underlying t with
    |some (.func ..)=>(cO P x).map (gN.Sc neg true)
    |_=>none
  | .const (.pointer none)=>match P.underlying t with
    |some (.pointer _)=>(cO P x).map (gN.Ua neg)
    |_=>none
  |_=>match Vg P t with
    |some (.sc s)=>do pure (.Pq neg s (<-cO P x) (<-cO P y))
    |some (.ag ts)=>do pure (.T9 neg ts (<-cO P x) (<-cO P y))
    |_=>none
def wO (P:Program) (op:BinOp) (t:TypeId) (x y:Operand):Option gN:=
  match op with
  | .eql=>tr P false t x y
  | .neq=>tr P true t x y
  | .shl=>do pure (.sh true (<-cO P x) (<-cO P y))
  | .shr=>do pure (.sh false (<-cO P x) (<-cO P y))
  |op=>match P.underlying t with
    |some (.int k)=>do pure (.bin op k (<-cO P x) (<-cO P y))
    |some .string=>do pure (.MA op (<-cO P x) (<-cO P y))
    |_=>none
def tt (P:Program) (t:TypeId):Option (MK×K):=
  match P.underlying t with
  |some (.map k e)=>match oF P e,(P.info? e).bind (·.zero),fI P k,P.underlying k with
    |some false,some zv,some s,_=>(HR zv).map fun z=>(⟨false,[s]⟩,z)
    |some false,some zv,none,some (.struct fs)=>match eT P 4 0 fs.toList,HR zv with
      |some ts,some z=>if !P.stoodInHeld k/\fs.toList.all (fun f=>(fI P f.type).isSome)then some (⟨true,ts⟩,z)else none
      |_,_=>none
    |_,_,_,_=>none
  |_=>none
def oe (P:Program) (c:Call):Option gN:=
  match c.callee with
  | .builtin .len=>match c.args.toList,c.argTypes.toList with
    |[x],[t]=>match P.underlying t with
      |some (.slice _)=>(cO P x).map gN.len
      |some .string=>(cO P x).map gN.Nq
      |some (.map _ _)=>match tt P t,cO P x with
        |some (m,_),some x=>some (.mq (.len m) [x])
        |_,_=>none
      |some (.chan _ _)=>(cO P x).map gN.KJ
      |_=>none
    |_,_=>none
  | .builtin .append=>match c.args.toList,c.argTypes.toList with
    |[x,y],[t,u]=>match P.underlying t with
      |some (.slice e)=>match eE P e,jV P e,P.info? e with
        |some (sz+1),some _,some i=>if i.bytes<=32768/\t=u then do pure (.append (sz+1) (<-cO P x) (<-cO P y))else none
        |_,_,_=>none
      |_=>none
    |_,_=>none
  | .builtin .clear=>match c.args.toList,c.argTypes.toList with
    |[x],[t]=>match P.underlying t with
      |some (.slice e)=>match eE P e,jV P e with
        |some (_+1),some z=>(cO P x).map (gN.clear z)
        |_,_=>none
      |_=>none
    |_,_=>none
  | .value (.func f)=>if ga P f then(c.args.toList.mapM (cO P)).map (gN.call f)else none
  | .value (.tmp t)=>(c.args.toList.mapM (cO P)).map (gN.um (.t t))
  | .builtin .delete=>match c.args.toList,c.argTypes.toList with
    |[x,k],[t,_]=>match tt P t,cO P x,cO P k with
      |some (m,_),some x,some k=>some (.mw (.del m) [x,k])
      |_,_,_=>none
    |_,_=>none
  | .builtin .copy=>match c.args.toList,c.argTypes.toList with
    |[x,y],[t,_]=>match P.underlying t with
      |some (.slice e)=>match eE P e with
        |some (sz+1)=>do pure (.copy (sz+1) (<-cO P x) (<-cO P y))
        |_=>none
      |_=>none
    |_,_=>none
  |_=>none
def rR (P:Program) (o:Op):Option gN:=
  match o with
  | .move x| .assign x=>(cO P x).map gN.dz
  | .pick c a b=>do pure (.pick (<-cO P c) (<-cO P a) (<-cO P b))
  | .alloc e=>(jV P e).map gN.new
  | .box _ x=>(cO P x).map gN.box
  | .load t a=>do pure (.load (<-oF P t) (<-eE P t) (<-cO P a))
  | .store t a x=>do pure (.store (<-eE P t) (<-cO P a) (<-cO P x))
  | .nilCheck x=>(cO P x).map gN.BB
  | .binOp op t x y _=>wO P op t x y
  | .unOp .not _ x=>(cO P x).map gN.not
  | .unOp .neg _ x=>(cO P x).map gN.neg
  | .convert s d x=>match P.underlying s,P.underlying d with
    |some (.int _),some (.int k)=>(cO P x).map (gN.conv k)
    |some .string,some .string=>(cO P x).map gN.Gb
    |_,_=>none
  | .slice t x lo hi none=>match P.underlying t with
    |some (.slice e)=>do
      pure (.slice (<-eE P e) (<-cO P x) (<-r4 P lo) (<-r4 P hi))
    |some .string=>do pure (.Be (<-cO P x) (<-r4 P lo) (<-r4 P hi))
    |_=>none
  | .fieldAddr s x i=>match P.underlying s with
    |some (.struct fs)=>match fs[i]? with
      |some f=>match eE P f.type with
        |some (_+1)=>(cO P x).map (gN.gp f.offset)
        |_=>none
      |none=>none
    |_=>none
  | .field s x i=>match P.underlying s with
    |some (.struct fs)=>match fs[i]? with
      |some f=>do pure (.field (<-oF P f.type) f.offset (<-eE P f.type) (<-cO P x))
      |none=>none
    |_=>none
  | .indexAddr t x i=>match P.underlying t with
    |some (.slice e)=>match eE P e with
      |some (m+1)=>do pure (.dY (m+1) (<-cO P x) (<-cO P i))
      |_=>none
    |some (.array len e)=>match eE P e with
      |some (m+1)=>do pure (.Nb len (m+1) (<-cO P x) (<-cO P i))
      |_=>none
    |_=>none
  | .index t x i=>match P.underlying t with
    |some .string=>do pure (.Nd (<-cO P x) (<-cO P i))
    |some (.array len e)=>do pure (.eY (<-oF P e) len (<-eE P e) (<-cO P x) (<-cO P i))
    |_=>none
  | .extract x i=>(cO P x).map (gN.extract i)
  | .build t ps=>match P.underlying t with
    |some (.struct fs)=>
      match jV P t,tx P ps with
      |some z,some l=>
        if fs.all (fun f=>(P.info? f.type).isSome)then(tq P fs l).map (gN.build z)else none
      |_,_=>none
    |some (.array _ e)=>
      match jV P t,tx P ps,eE P e with
      |some z,some l,some n=>some (.build z (l.map fun(i,x)=>(i*n,n,x)))
      |_,_,_=>none
    |_=>none
  | .buildSlice t len ps=>match P.underlying t with
    |some (.slice e)=>match eE P e,jV P e,tx P ps with
      |some (sz+1),some _,some l=>
        if len*(sz+1)<=4096/\l.map (·.1)=List.range len then some (.mc (sz+1) len (l.map (·.2)))else none
      |_,_,_=>none
    |_=>none
  | .makeFunc (.func f) first dp=>
    if first= #[]/\ga P f then(dp.toList.mapM (cO P)).map (gN.Nv f)else if dp= #[]/\ga P f then(first.toList.mapM (cO P)).map (gN.Nw f)else none
  | .makeSlice t l c=>match P.underlying t with
    |some (.slice e)=>match eE P e,jV P e,P.info? e with
      |some (_+1),some z,some i=>if i.bytes<=32768 then do pure (.kg z (<-cO P l) (<-cO P c))else none
      |_,_,_=>none
    |_=>none
  | .call c=>oe P c
  | .makeChan t n=>match P.underlying t with
    |some (.chan _ e)=>match P.info? e with
      |some i=>if i.bytes<=32768 then(cO P n).map gN.KS else none
      |none=>none
    |_=>none
  | .send x y=>do pure (.snd (<-cO P x) (<-cO P y))
  | .recv t x false=>match P.underlying t with
    |some (.chan _ e)=>match (P.info? e).bind (·.zero)with
      |some _=>(cO P x).map gN.QG
      |none=>none
    |_=>none
  | .makeMap t none=>match tt P t with
    |some (m,_)=>some (.mq (.new m) [])
    |none=>none
  | .lookup t x k ok=>match tt P t,cO P x,cO P k with
    |some (m,z),some x,some k=>some (.mq (.look m ok z) [x,k])
    |_,_,_=>none
  | .mapUpdate t x k v| .insert t x k v=>match tt P t,cO P x,cO P k,cO P v with
    |some (m,_),some x,some k,some v=>some (.mw (.set m) [x,k,v])
    |_,_,_,_=>none
  | .makeInterface _ _=>some .bad
  | .panic _=>some .bad
  |_=>none
inductive U0 where
  |pure|look|make|write
  deriving DecidableEq,Repr
def gN.cls:gN->U0
  | .new _| .box _| .mc .. | .kg .. | .mq (.new _) _| .KS _=>.make
  | .load .. | .dY .. | .slice .. | .call .. | .um .. | .mq .. | .KJ _=>.look
  | .store .. | .append .. | .copy .. | .clear .. | .mw .. | .snd .. | .QG _=>.write
  |_=>.pure
def clash:U0->U0->Bool
  | .pure,_|_,.pure=>false
  | .write,_|_,.write=>true
  |_,_=>false
def jR (ops:Array Oper):Array Nat:=Region.before ops
def rJ:gN->Bool:=fun o=>o.cls==.make||o.cls==.write
def gN.mh:gN->Bool
  | .call .. | .um .. =>true
  |_=>false
def Eo (ops:Array Oper) (o:Oper):Option (Option (Nat×Bool)):=
  match o.guard with
  |none=>some none
  |some (i,b)=>match (ops[i]?).bind (·.dst)with
    |some t=>some (some (t,b))
    |none=>none
def lh (P:Program) (ops:Array Oper) (nt site0:Nat) (draw mk:Bool) (bs:Array Nat) (hidden:List (Nat×Bool)) (j:Nat) (o:Oper):Option br:=do
  let v <-rR P o.op
  let g <-Eo ops o
  if (o.dst.all fun d=>decide (d<nt))then
    pure {dst:=o.dst,op:=v,guard:=g,site:=site0+j,hid:=if draw then(hidden.filter fun(i,m)=>m&& !(bs.getD j 0).testBit i&&(i !=j||mk&&v.mh)).map fun(i,_)=>site0+i else[]}
  else none
def allM {α:Type} (f:Nat->Oper->Option α):List Oper->Nat->Option (List α)
  |[],_=>some []
  |o::r,j=>do pure ((<-f j o)::(<-allM f r (j+1)))
def iq:O->List Nat
  | .t n=>[n]
  |_=>[]
def xH:Option O->List Nat
  |some x=>iq x
  |none=>[]
def gN.gU:gN->List Nat
  | .clear _ x| .dz x| .box x| .load _ _ x| .BB x| .Sc _ _ x| .Ua _ x| .not x| .neg x| .conv _ x| .Gb x| .gp _ x| .field _ _ _ x| .extract _ x| .len x| .Nq x| .KS x| .KJ x| .QG x=>iq x
  | .pick c a b=>iq c++iq a++iq b
  | .new _| .bad=>[]
  | .build _ ps=>ps.flatMap fun(_,_,x)=>iq x
  | .mc _ _ ps=>ps.flatMap iq
  | .store _ a x| .snd a x=>iq a++iq x
  | .bin _ _ x y| .sh _ x y| .MA _ x y| .Pq _ _ x y| .T9 _ _ x y| .dY _ x y| .Nb _ _ x y| .Nd x y| .eY _ _ _ x y| .append _ x y| .copy _ x y| .kg _ x y=>iq x++iq y
  | .slice _ x lo hi| .Be x lo hi=>iq x++xH lo++xH hi
  | .Nv _ l| .Nw _ l| .call _ l| .mq _ l| .mw _ l=>l.flatMap iq
  | .um x l=>iq x++l.flatMap iq
def br.gU (v:br):List Nat:=v.op.gU++(match v.guard with|some (t,_)=>[t]|none=>[])
def ud (x y:br):Bool:=
  (match x.dst with
   |some d=> !y.gU.contains d&&y.dst !=some d
   |none=>true)&&
  (match y.dst with
   |some d=> !x.gU.contains d
   |none=>true)
def br.makes (v:br):Bool:=rJ v.op||v.op.mh&&v.hid.contains v.site
def Gj (x y:br):Bool:=
  ud x y&& !clash x.op.cls y.op.cls&&(!x.makes||y.hid.contains x.site)&&(!y.makes||x.hid.contains y.site)&&x.site !=y.site
def Gc (ops:Array Oper):Bool:=ops.toList.zipIdx.all fun(o,j)=>o.after.all fun e=> !Region.binds .any e||decide (e.on<j)
def pb (ops:Array Oper) (vl:List br) (bs:Array Nat):Bool:=
  Gc ops&&vl.zipIdx.all fun(y,j)=>vl.zipIdx.all fun(x,i)=> !(decide (i<j))||(bs.getD j 0).testBit i||Gj x y
def r5 (P:Program) (nt site0:Nat) (ops:Array Oper) (draw mk:Bool):Option (List br):=
  let bs:=if draw then jR ops else #[]
  let hidden:=if draw then ops.toList.zipIdx.map fun(o,i)=>(i,((rR P o.op).map fun v=>rJ v||mk&&v.mh).getD false)else[]
  match allM (lh P ops nt site0 draw mk bs hidden) ops.toList 0 with
  |some vl=>if !draw||pb ops vl bs then some vl else none
  |none=>none
def ly (v:br):Bool:= !v.op.mh&&v.op.cls !=.write
def zi (x y:br):Bool:=ud x y&&x.op.cls==.pure||Gj x y&&ly x&&ly y
def qV (ops:Array Oper) (vl:List br) (bs:Array Nat) (listed:Array Bool) (i:Nat):Bool:=
  match vl[i]? with
  |some x=>(List.range ops.size).all fun j=>listed.getD j false||j==i||(bs.getD j 0).testBit i||(match vl[j]? with|some y=>zi x y|none=>false)
  |none=>false
def OI (vl:List br) (x:br):Option (Nat×Nat×O):=
  match x.op,x.guard with
  | .append _ (.t t) y,none=>match vl.find? fun v=>v.dst==some t&&v.op.cls==.make with
    |some v=>some (t,v.site,y)
    |none=>none
  |_,_=>none
def Gi (s:Nat) (x y:br):Bool:=ud x y&&ly y&&y.hid.contains s&&y.hid.contains x.site&&y.site !=s&&y.site !=x.site
def pd (ops:Array Oper) (vl:List br) (bs:Array Nat) (listed:Array Bool) (i s:Nat):Bool:=
  match vl[i]? with
  |some x=>(List.range ops.size).all fun j=>listed.getD j false||j==i||(bs.getD j 0).testBit i||(match vl[j]? with|some y=>Gi s x y|none=>false)
  |none=>false
def Qv (ops:Array Oper) (vl:List br) (bs:Array Nat) (listed:Array Bool) (i:Nat):Option (Nat×Nat×Nat×O×br):=
  match vl[i]? with
  |some x=>match OI vl x with
    |some (t,s,y)=>if pd ops vl bs listed i s then some (i,t,s,y,x)else none
    |none=>none
  |none=>none
def B5:List VC->Option VC
  |[]=>none
  |[c]=>some c
  |c::r=>(B5 r).map (VC.both c)
def ye (ops:Array Oper) (vl:List br) (bs:Array Nat):Nat->Array Bool->Option VC
  |0,listed=>
    match Region.ready .any ops listed with
    |[]=>some (.eS false [])
    |_::_=>none
  |n+1,listed=>
    match Region.ready .any ops listed with
    |[]=>some (.eS false [])
    |r::rs=>let rdy:=r::rs
      match rdy.find? (qV ops vl bs listed)with
      |some i=>match vl[i]? with
        |some vo=>(ye ops vl bs n (listed.setIfInBounds i true)).map (VC.one vo)
        |none=>none
      |none=>match rdy.findSome? (Qv ops vl bs listed)with
        |some (i,t,s,y,vo)=>(ye ops vl bs n (listed.setIfInBounds i true)).map fun c=>VC.loc t s y (.one vo c)
        |none=>match rdy.mapM fun i=>(vl[i]?).bind fun vo=>(ye ops vl bs n (listed.setIfInBounds i true)).map (VC.one vo)with
          |some l=>B5 l
          |none=>none
def OG:Op->Bool
  | .send .. | .recv .. =>true
  |_=>false
def R5 (P:Program) (nt site0:Nat) (ops:Array Oper) (draw:Bool) (mode:Nat):Option VC:=
  if draw&&mode==2 then
    match allM (lh P ops nt site0 true false (jR ops) (ops.toList.zipIdx.map fun(o,i)=>(i,((rR P o.op).map rJ).getD false))) ops.toList 0 with
    |some vl=>ye ops vl (jR ops) ops.size (Array.replicate ops.size false)
    |none=>none
  else if !draw&&ops.any (fun o=>OG o.op)then(r5 P nt site0 ops false false).map VC.Pg
  else(r5 P nt site0 ops draw (mode==1)).map (VC.eS draw)
def xz (md:List (Nat×Nat)) (id:Nat):Nat:=
  match md with
  |[]=>0
  |(i,m)::r=>if i=id then m else xz r id
def jC (P:Program) (md:List (Nat×Nat)) (nt fid:Nat):Code->Option VC
  | .skip=>some .skip
  | .region id ops draw=>R5 P nt ((fid*1000+id)*1000) ops draw (xz md id)
  | .seq a b=>do pure (.seq (<-jC P md nt fid a) (<-jC P md nt fid b))
  | .cond c x y=>do pure (.cond (<-cO P c) (<-jC P md nt fid x) (<-jC P md nt fid y))
  | .block id c=>(jC P md nt fid c).map (VC.block id)
  | .loop c=>(jC P md nt fid c).map VC.loop
  | .exit id=>some (.exit id)
  | .ret=>some .ret
  |_=>none
def Ep (P:Program) (r:ResultVar):Option ox:=
  match r with
  | .tmp t=>some (.tmp t)
  | .cell a t=>do pure (.cell (<-oF P t) (<-eE P t) a)
def yz (P:Program) (f:Nat) (md:List (Nat×Nat)):Option BA:=
  match P.funcs[f]? with
  |some fn=>match fn.body with
    |some c=>do
      let b <-jC P md fn.ntmps f c
      let r <-fn.results.toList.mapM (Ep P)
      if fn.params.size+fn.nfree<=fn.ntmps then pure {ntmps:=fn.ntmps,zE:=fn.params.size+fn.nfree,body:=b,res:=r}else none
    |none=>none
  |none=>none
def lV (P:Program) (f:Nat):Option BA:=yz P f []
end Go.Proofs.YtgoelphibofcmaaGreat.V

namespace Go.Proofs.YtgoelphibofcmaaGreat.V
open Go.RowKit
structure Row where
 w:Bool
 sz:Nat
 rows:List (List AV)
abbrev Rows:=Id->Option Row
structure au where
 get:Rows
 next:Nat
abbrev Env:=Nat->AV
def upd (env:Env):Option Nat->AV->Env
 |some d,v=>fun t=>if t=d then v else env t
 |none,_=>env
inductive Ex where
 |normal
 |exit (id:Nat)
 |ret
 deriving DecidableEq
def dm (env:Env):O->AV
 | .t n=>env n
 | .k c=>c.av
 | .ka cs=>.agg (cs.map K.av)
 | .f n=>.fn n []
def bQ (g:Rows) (id:Id) (r:Row):Rows:=fun i=>if i=id then some r else g i
def cC (g:Rows) (id:Id):Rows:=fun i=>if i=id then none else g i
def fW:List Nat->Nat->Rows->Rows
 |[],_,g=>g
 |h::t,n,g=>fun id=>if (h::t).contains id.site=true/\id.bE=n then none else g id
def ro (g:Rows):Rows:=fun id=>(g id).map fun r=>{r with w:=false}
def part (agg:Bool) (n:Nat) (cs:List AV):Option AV:=
 if agg then(if n<=cs.length then some (.agg (cs.take n))else none)else cs.head?
def rowAt (g:Rows) (id:Id) (i:Nat):Option (List AV):=(g id).bind (·.rows[i]?)
def ld (g:Rows) (agg:Bool) (n:Nat):AV->Option AV
 | .ptr id i off=>(rowAt g id i).bind fun cs=>part agg n (cs.drop off)
 | .du cs=>part agg n cs
 |_=>none
def dE:BinOp->IntKind->Int->Int->Option AV
 | .add,k,a,b=>some (.int k (k.wrap (a+b)))
 | .sub,k,a,b=>some (.int k (k.wrap (a-b)))
 | .mul,k,a,b=>some (.int k (k.wrap (a*b)))
 | .quo,k,a,b=>if b=0 then none else some (.int k (k.wrap (a.tdiv b)))
 | .rem,k,a,b=>if b=0 then none else some (.int k (a.tmod b))
 | .lss,_,a,b=>some (.bool (decide (a<b)))
 | .leq,_,a,b=>some (.bool (decide (a<=b)))
 | .gtr,_,a,b=>some (.bool (decide (b<a)))
 | .geq,_,a,b=>some (.bool (decide (b<=a)))
 | .and,k,a,b=>some (.int k (k.wrap (BitVec.ofInt k.bits a&&& BitVec.ofInt k.bits b).toNat))
 | .or,k,a,b=>some (.int k (k.wrap (BitVec.ofInt k.bits a|||BitVec.ofInt k.bits b).toNat))
 | .xor,k,a,b=>some (.int k (k.wrap (BitVec.ofInt k.bits a ^^^ BitVec.ofInt k.bits b).toNat))
 |_,_,_,_=>none
def ea (op:BinOp):AV->AV->Option AV
 | .int k a,.int k' b=>if k=k' then dE op k a b else none
 |_,_=>none
def gZ (left:Bool):AV->AV->Option AV
 | .int k a,.int _ b=>if b<0 then none else some (.int k (if left then k.wrap (a*2 ^ min b.toNat k.bits)else a.fdiv (2 ^ min b.toNat k.bits)))
 |_,_=>none
def eo:BinOp->ByteArray->ByteArray->Option AV
 | .add,a,b=>if a.size+b.size<=9223372036854775807 then some (.str (a++b))else none
 | .lss,a,b=>some (.bool (Op.bytesLess a.toList b.toList))
 | .leq,a,b=>some (.bool (Op.bytesLess a.toList b.toList||(a.toList==b.toList)))
 | .gtr,a,b=>some (.bool !(Op.bytesLess a.toList b.toList||(a.toList==b.toList)))
 | .geq,a,b=>some (.bool !(Op.bytesLess a.toList b.toList))
 |_,_,_=>none
def dh (op:BinOp):AV->AV->Option AV
 | .str a,.str b=>eo op a b
 |_,_=>none
def fV:TS->AV->AV->Option Bool
 | .tI,.int k a,.int k' b=>if k=k' then some (decide (a=b))else none
 | .tB,.bool a,.bool b=>some (a==b)
 | .tS,.str a,.str b=>some (decide (a=b))
 |_,_,_=>none
def fj:List TS->List AV->List AV->Option Bool
 |[],[],[]=>some true
 |t::ts,a::r,b::s=>match fV t a b,fj ts r s with
  |some x,some y=>some (x&&y)
  |_,_=>none
 |_,_,_=>none
def dB (neg b:Bool):Bool:=if neg then !b else b
def dd:AV->Option Bool
 | .bD=>some true
 | .own _ _ _=>some false
 | .sl (_::_)=>some false
 |_=>none
def dc:AV->Option Bool
 | .jo=>some true
 | .fn _ _=>some false
 |_=>none
def LS:AV->Option Bool
 | .gT=>some true
 | .ptr .. | .du _=>some false
 |_=>none
def ef (Nj:Bool) (x:AV):Option Bool:=if Nj then dc x else dd x
def dS (len:Nat):Option AV->Option Nat
 |none=>some len
 |some (.int _ n)=>if 0<=n/\n<=len then some n.toNat else none
 |_=>none
def dU (h:Nat):Option AV->Option Nat
 |none=>some 0
 |some (.int _ n)=>if 0<=n/\n<=h then some n.toNat else none
 |_=>none
def b4 (g:Rows) (sz:Nat) (x:AV) (lo hi:Option AV):Option AV:=
 match x with
 | .bD=>(dS 0 hi).bind fun h=>(dU h lo).map fun _=>.bD
 | .sl rows=>(dS rows.length hi).bind fun h=>(dU h lo).bind fun l=>if ∀cs∈rows,cs.length=sz then some (.sl ((rows.drop l).take (h-l)))else none
 | .own id off len=>(g id).bind fun r=>(dS len hi).bind fun h=>(dU h lo).bind fun l=>if r.sz=sz then some (.own id (off+l) (h-l))else none
 |_=>none
def bj (x:AV) (lo hi:Option AV):Option AV:=
 match x with
 | .str s=>(dS s.size hi).bind fun h=>(dU h lo).map fun l=>.str (s.extract l h)
 |_=>none
def F0 (off:Nat):AV->Option AV
 | .ptr id i o=>some (.ptr id i (o+off))
 | .du cs=>some (.du (cs.drop off))
 |_=>none
def bW (g:Rows) (sz:Nat):AV->AV->Option AV
 | .sl rows,.int _ n=>if 0<=n then(rows[n.toNat]?).bind fun cs=>if cs.length=sz then some (.du cs)else none else none
 | .own id off len,.int _ n=>if 0<=n/\n<len then(g id).bind fun r=>if r.sz=sz then some (.ptr id (off+n.toNat) 0)else none else none
 |_,_=>none
def cV (len sz:Nat):AV->AV->Option AV
 | .ptr id r off,.int _ n=>if 0<=n/\n<len then some (.ptr id r (off+n.toNat*sz))else none
 | .du cs,.int _ n=>if 0<=n/\n<len then some (.du (cs.drop (n.toNat*sz)))else none
 |_,_=>none
def cY:AV->AV->Option AV
 | .str s,.int _ n=>if 0<=n then(s[n.toNat]?).map fun b=>.int .u8 b.toNat else none
 |_,_=>none
def cW (agg:Bool) (len n:Nat):AV->AV->Option AV
 | .agg cs,.int _ i=>if 0<=i/\i<len then part agg n (cs.drop (i.toNat*n))else none
 |_,_=>none
def ec:AV->Option Nat
 | .bD=>some 0
 | .sl rows=>some rows.length
 | .own _ _ n=>some n
 |_=>none
def eh:AV->Option AV
 | .bool b=>some (.bool !b)
 |_=>none
def ee:AV->Option AV
 | .int k n=>some (.int k (k.wrap (0-n)))
 |_=>none
def cU (k:IntKind):AV->Option AV
 | .int _ n=>some (.int k (k.wrap n))
 |_=>none
def ck:AV->Option AV
 | .str s=>some (.str s)
 |_=>none
def de:AV->AV->AV->Option AV
 | .bool c,a,b=>some (if c then a else b)
 |_,_,_=>none
def eb:AV->Option AV
 | .ptr id i o=>some (.ptr id i o)
 | .du cs=>some (.du cs)
 |_=>none
def bV (agg:Bool) (off n:Nat):AV->Option AV
 | .agg cs=>if off+n<=cs.length then part agg n (cs.drop off)else none
 |_=>none
def aU (i:Nat):AV->Option AV
 | .gD vs=>vs[i]?
 |_=>none
def da:AV->Option AV
 | .str s=>some (.int .i64 s.size)
 |_=>none
def rowOf (sz:Nat) (v:AV):Option (List AV):=if v.cells.length=sz/\v.cells.all AV.cell then some v.cells else none
def cQ (v:AV):Option (List AV):=if v.cells.all AV.cell then some v.cells else none
def rowsOf (sz:Nat):List AV->Option (List (List AV))
 |[]=>some []
 |v::r=>(rowOf sz v).bind fun c=>(rowsOf sz r).map fun cs=>c::cs
def cK:List AV->List (Nat×Nat×AV)->Option (List AV)
 |cs,[]=>some cs
 |cs,(off,n,v)::r=>if v.cells.length=n/\off+n<=cs.length/\v.cells.all AV.cell then cK (cs.take off++v.cells++cs.drop (off+n)) r else none
def dG:Nat:=16777216
def gY (zero:List K):AV->AV->Option (Nat×Row)
 | .int _ l,.int _ c=>if 0<=l/\l<=c/\c<=dG then some (l.toNat,⟨true,zero.length,List.replicate l.toNat (zero.map K.av)⟩)else none
 |_,_=>none
def sE:Nat:=1000000000
def MK.ks (m:MK):Nat:=m.ts.length
def MK.qe (m:MK):Nat:=sE+m.ks
def AV.isAgg:AV->Bool
 | .agg _=>true
 |_=>false
def gz (m:MK) (key:List AV):List (List AV)->Nat->Option (Option Nat)
 |[],_=>some none
 |r::l,i=>match fj m.ts key (r.take m.ks)with
  |some true=>some (some i)
  |some false=>gz m key l (i+1)
  |none=>none
def dW (g:Rows) (m:MK):AV->Option (Id×Row)
 | .map id m'=>if m'=m then(g id).map fun r=>(id,r)else none
 |_=>none
def gi (m:MK) (k:AV) (rows:List (List AV)):Option (Option Nat):=if k.isAgg=m.ka/\k.cells.length=m.ks/\k.cells.all AV.cell then gz m k.cells rows 0 else none
def dZ (m:MK) (z:K) (rows:List (List AV)):Option Nat->Option AV
 |some i=>(rows[i]?).bind fun cs=>cs[m.ks]?
 |none=>some z.av
def bH (q:MQ) (vs:List AV) (g:Rows) (id:Id):Option (AV×Option Row):=
 match q,vs with
 | .new m,[]=>some (.map id m,some ⟨true,m.qe,[]⟩)
 | .look m ok z,[x,k]=>(dW g m x).bind fun p=>(gi m k p.2.rows).bind fun fi=>(dZ m z p.2.rows fi).map fun v=>(if ok then .gD [v,.bool fi.isSome]else v,none)
 | .len m,[x]=>(dW g m x).map fun p=>(.int .i64 p.2.rows.length,none)
 |_,_=>none
def qU:Nat:=2000000000
def db:AV->Option Nat
 | .int _ n=>if 0<=n/\n<=1048576 then some n.toNat else none
 |_=>none
def cZ (g:Rows):AV->Option AV
 | .r6 id=>(g id).map fun r=>.int .i64 r.rows.length
 |_=>none
def ej (g:Rows):AV->AV->Option Rows
 | .r6 id,v=>(g id).bind fun r=>if r.w/\qU+r.rows.length<r.sz/\v.cell then some (bQ g id {r with rows:=r.rows++[[v]]})else none
 |_,_=>none
def ei (g:Rows):AV->Option (AV×Rows)
 | .r6 id=>(g id).bind fun r=>match r.rows with
  |[v]::rest=>if r.w then some (v,bQ g id {r with rows:=rest})else none
  |_=>none
 |_=>none
def dO (rows:List (List AV)) (e:List AV):Option Nat->List (List AV)
 |some i=>rows.set i e
 |none=>rows++[e]
def dL (rows:List (List AV)):Option Nat->List (List AV)
 |some i=>rows.eraseIdx i
 |none=>rows
def bK (q:MW) (vs:List AV) (g:Rows):Option Rows:=
 match q,vs with
 | .set m,[x,k,v]=>(dW g m x).bind fun p=>(gi m k p.2.rows).bind fun fi=>if p.2.w/\v.cell/\v.isAgg=false then some (bQ g p.1 {p.2 with rows:=dO p.2.rows (k.cells++[v]) fi})else none
 | .del m,[x,k]=>(dW g m x).bind fun p=>(gi m k p.2.rows).bind fun fi=>if p.2.w then some (bQ g p.1 {p.2 with rows:=dL p.2.rows fi})else none
 |_,_=>none
def eU (o:gN) (ρ:O->AV) (g:Rows) (id:Id):Option (AV×Option Row):=
 match o with
 | .dz x=>some (ρ x,none)
 | .pick c a b=>(de (ρ c) (ρ a) (ρ b)).map (·,none)
 | .new zero=>some (.ptr id 0 0,some ⟨true,zero.length,[zero.map K.av]⟩)
 | .box x=>(cQ (ρ x)).map fun cs=>(.ptr id 0 0,some ⟨true,cs.length,[cs]⟩)
 | .build zero parts=>(cK (zero.map K.av) (parts.map fun(o,n,x)=>(o,n,ρ x))).map fun cs=>(.agg cs,none)
 | .mc sz len parts=>(rowsOf sz (parts.map ρ)).map fun rs=>(.own id 0 len,some ⟨true,sz,rs⟩)
 | .load agg n a=>(ld g agg n (ρ a)).map (·,none)
 | .BB x=>(eb (ρ x)).map (·,none)
 | .bin op _ x y=>(ea op (ρ x) (ρ y)).map (·,none)
 | .sh left x y=>(gZ left (ρ x) (ρ y)).map (·,none)
 | .MA op x y=>(dh op (ρ x) (ρ y)).map (·,none)
 | .Pq neg t x y=>(fV t (ρ x) (ρ y)).map fun b=>(.bool (dB neg b),none)
 | .T9 neg ts x y=>match ρ x,ρ y with
  | .agg xs,.agg ys=>(fj ts xs ys).map fun b=>(.bool (dB neg b),none)
  |_,_=>none
 | .Sc neg Nj x=>(ef Nj (ρ x)).map fun b=>(.bool (dB neg b),none)
 | .Ua neg x=>(LS (ρ x)).map fun b=>(.bool (dB neg b),none)
 | .not x=>(eh (ρ x)).map (·,none)
 | .neg x=>(ee (ρ x)).map (·,none)
 | .conv k x=>(cU k (ρ x)).map (·,none)
 | .Gb x=>(ck (ρ x)).map (·,none)
 | .slice sz x lo hi=>(b4 g sz (ρ x) (lo.map ρ) (hi.map ρ)).map (·,none)
 | .Be x lo hi=>(bj (ρ x) (lo.map ρ) (hi.map ρ)).map (·,none)
 | .gp off x=>(F0 off (ρ x)).map (·,none)
 | .field agg off n x=>(bV agg off n (ρ x)).map (·,none)
 | .dY sz x i=>(bW g sz (ρ x) (ρ i)).map (·,none)
 | .Nb len sz x i=>(cV len sz (ρ x) (ρ i)).map (·,none)
 | .Nd x i=>(cY (ρ x) (ρ i)).map (·,none)
 | .eY agg len n x i=>(cW agg len n (ρ x) (ρ i)).map (·,none)
 | .extract i x=>(aU i (ρ x)).map (·,none)
 | .len x=>(ec (ρ x)).map fun(n:Nat)=>(AV.int .i64 (n:Int),none)
 | .Nq x=>(da (ρ x)).map (·,none)
 | .Nv f dp=>some (.fn f (dp.map ρ),none)
 | .Nw f first=>some (.uE f (first.map ρ),none)
 | .kg zero l c=>(gY zero (ρ l) (ρ c)).map fun(n,r)=>(.own id 0 n,some r)
 | .mq q xs=>bH q (xs.map ρ) g id
 | .KS x=>(db (ρ x)).map fun n=>(.r6 id,some ⟨true,qU+n,[]⟩)
 | .KJ x=>(cZ g (ρ x)).map (·,none)
 |_=>none
def bx (g:Rows):AV->Option (List (List AV))
 | .bD=>some []
 | .sl rows=>some rows
 | .own id off len=>(g id).bind fun r=>if off+len<=r.rows.length then some ((r.rows.drop off).take len)else none
 |_=>none
def cP (cs:List AV) (off:Nat) (xs:List AV):List AV:=cs.take off++xs++cs.drop (off+xs.length)
def cj (g:Rows) (n:Nat) (v:AV):AV->Option Rows
 | .ptr id i off=>(g id).bind fun r=>(r.rows[i]?).bind fun cs=>
  if r.w/\v.cells.length=n/\v.cells.all AV.cell/\off+n<=cs.length then some (bQ g id {r with rows:=r.rows.set i (cP cs off v.cells)})else none
 |_=>none
def bd (g:Rows) (id:Id) (sz:Nat) (x:AV) (ys:List (List AV)):Option (AV×Rows):=
 match x with
 | .bD=>match ys with
  |[]=>some (.bD,g)
  |y::r=>if (y::r).length<=dG/\(y::r).all (fun c=>c.length==sz&&c.all AV.cell)then some (.own id 0 (y::r).length,bQ g id ⟨true,sz,y::r⟩)else none
 | .own i 0 len=>(g i).bind fun r=>
  if r.w/\r.sz=sz/\len=r.rows.length/\len+ys.length<=dG/\ys.all (fun c=>c.length==sz&&c.all AV.cell)then some (.own id 0 (len+ys.length),bQ (cC g i) id ⟨true,sz,r.rows++ys⟩)else none
 |_=>none
def G1 (g:Rows) (sz:Nat) (x:AV) (ys:List (List AV)):Option (AV×Rows):=
 match x with
 | .own i off len=>(g i).bind fun r=>
  if r.w/\r.sz=sz/\off+len<=r.rows.length/\ys.all (fun c=>c.length==sz&&c.all AV.cell)then
   some (.int .i64 (min ys.length len:Nat),bQ g i {r with rows:=r.rows.take off++ys.take (min ys.length len)++r.rows.drop (off+min ys.length len)})else none
 |_=>none
def bS (g:Rows) (zero:List K) (x:AV):Option Rows:=
 match x with
 | .bD=>some g
 | .own i off len=>(g i).bind fun r=>
  if r.w/\r.sz=zero.length/\off+len<=r.rows.length then
   some (bQ g i {r with rows:=r.rows.take off++List.replicate len (zero.map K.av)++r.rows.drop (off+len)})else none
 |_=>none
def fY (o:gN) (ρ:O->AV) (g:Rows) (id:Id):Option (AV×Rows):=
 match o with
 | .store n a x=>(cj g n (ρ x) (ρ a)).map fun g'=>(.undef,g')
 | .append sz x y=>(bx g (ρ y)).bind fun ys=>bd g id sz (ρ x) ys
 | .copy sz x y=>(bx g (ρ y)).bind fun ys=>G1 g sz (ρ x) ys
 | .clear zero x=>(bS g zero (ρ x)).map fun g'=>(.undef,g')
 | .mw q xs=>(bK q (xs.map ρ) g).map fun g'=>(.undef,g')
 |_=>none
def wP:AV->List AV->Option (Nat×List AV)
 | .fn f dp,l=>some (f,l++dp)
 | .uE f first,l=>some (f,first++l)
 |_,_=>none
abbrev fZ:=Nat->List AV->au->(AV->au->Prop)->Prop
mutual
def fz (g:Rows):Nat->AV->Option AV
 |0,_=>none
 |n+1,a=>match a with
  | .own id off len=>match g id with
   |some r=>if r.w then(if off+len<=r.rows.length then(eH g n ((r.rows.drop off).take len)).map AV.sl else none)else none
   |none=>none
  | .ptr id i off=>match g id with
   |some r=>if r.w then(match r.rows[i]? with
    |some cs=>(dt g n (cs.drop off)).map AV.du
    |none=>none)else none
   |none=>none
  | .agg cs=>(dt g n cs).map AV.agg
  | .gD vs=>(dt g n vs).map AV.gD
  | .fn f dp=>if dp.all AV.cell then(dt g n dp).map (AV.fn f)else none
  | .map _ _| .uE _ _| .r6 _=>none
  |v=>some v
 termination_by n _=>(n,0)
def dt (g:Rows):Nat->List AV->Option (List AV)
 |n,[]=>some []
 |n,a::r=>match fz g n a with
  |some b=>(dt g n r).map (b::·)
  |none=>none
 termination_by n l=>(n,l.length+1)
def eH (g:Rows):Nat->List (List AV)->Option (List (List AV))
 |n,[]=>some []
 |n,c::r=>match dt g n c with
  |some b=>(eH g n r).map (b::·)
  |none=>none
 termination_by n l=>(n,(l.map (fun c=>c.length+2)).sum+1)
 decreasing_by all_goals simp_wf;try omega
end
mutual
def gK (g:Rows):Nat->AV->Option AV
 |0,_=>none
 |n+1,a=>match a with
  | .own id off len=>match g id with
   |some r=>if r.w then(if off+len<=r.rows.length then(iE g n ((r.rows.drop off).take len)).map AV.sl else none)else none
   |none=>none
  | .ptr id i off=>match g id with
   |some r=>if r.w then(match r.rows[i]? with
    |some cs=>(eI g n (cs.drop off)).map AV.du
    |none=>none)else none
   |none=>none
  | .agg cs=>(eI g n cs).map AV.agg
  | .gD vs=>(eI g n vs).map AV.gD
  | .int k m=>some (.int k m)
  | .bool b=>some (.bool b)
  | .str s=>some (.str s)
  | .bD=>some .bD
  | .gT=>some .gT
  | .jo=>some .jo
  | .jy=>some .jy
  |_=>none
 termination_by n _=>(n,0)
def eI (g:Rows):Nat->List AV->Option (List AV)
 |n,[]=>some []
 |n,a::r=>match gK g n a with
  |some b=>(eI g n r).map (b::·)
  |none=>none
 termination_by n l=>(n,l.length+1)
def iE (g:Rows):Nat->List (List AV)->Option (List (List AV))
 |n,[]=>some []
 |n,c::r=>match eI g n c with
  |some b=>(iE g n r).map (b::·)
  |none=>none
 termination_by n l=>(n,(l.map (fun c=>c.length+2)).sum+1)
 decreasing_by all_goals simp_wf;try omega
end
def dX (g:Rows):Rows:=fun id=>(g id).map fun r=>{r with w:=true}
def PC (X:fZ) (f:Nat) (args:List AV) (σ:au) (K:AV->Prop):Prop:=
 X f args ⟨ro σ.get,σ.next⟩ fun r σ'=>∃r',fz σ'.get 6 r=some r'/\K r'
def PCv (X:fZ) (f:Nat) (args:List AV) (σ:au) (K:AV->Prop):Prop:=
 ∃args',dt (dX σ.get) 6 args=some args'/\X f args' ⟨fun _=>none,σ.next⟩ fun r σ'=>∃r',gK σ'.get 6 r=some r'/\K r'
def fX (X:fZ) (f:Nat) (args:List AV) (σ:au) (K:AV->Prop):Prop:=PC X f args σ K∨PCv X f args σ K
def aQ (g:Option (Nat×Bool)) (env:Env):Bool:=
 match g with
 |none=>true
 |some (t,b)=>match env t with
  | .bool c=>c==b
  |_=>false
def AV.plain:AV->Bool
 | .int .. | .bool _| .str _| .bD| .gT| .jo| .jy=>true
 |_=>false
def CM (X:fZ) (f:Nat) (args:List AV) (σ:au) (sz:Nat) (rows:List (List AV)):Prop:=
 (∀c∈rows,∀a∈c,a.plain=true)/\∃args',dt (dX σ.get) 6 args=some args'/\X f args' ⟨fun _=>none,σ.next⟩ fun r σ'=>∃id,r=.own id 0 rows.length/\σ'.get id=some ⟨true,sz,rows⟩
def cN (X:fZ) (draw:Bool) (hid:List Nat) (site:Nat) (f:Nat) (args:List AV) (σ:au) (next:AV->au->Prop):Prop:=
 (∃r,fX X f args ⟨fW hid σ.next σ.get,σ.next+1⟩ (fun r'=>r'=r)/\next r σ)∨
 (draw=false/\X f args ⟨σ.get,σ.next+1⟩ next)∨
 (hid.contains site=true/\∃sz rows,CM X f args ⟨fW hid σ.next σ.get,σ.next+1⟩ sz rows/\next (.own ⟨site,σ.next⟩ 0 rows.length) ⟨bQ σ.get ⟨site,σ.next⟩ ⟨true,sz,rows⟩,σ.next⟩)
def fM (X:fZ) (draw:Bool) (o:br) (env:Env) (σ:au) (next:AV->au->Prop):Prop:=
 match o.op with
 | .call f args=>cN X draw o.hid o.site f (args.map (dm env)) σ next
 | .um x args=>match dm env x with
  | .fn f dp=>cN X draw o.hid o.site f (args.map (dm env)++dp) σ next
  | .uE f first=>cN X draw o.hid o.site f (first++args.map (dm env)) σ next
  |_=>False
 | .store .. | .append .. | .copy .. | .clear .. | .mw .. =>match fY o.op (dm env) σ.get ⟨o.site,σ.next⟩with
  |some (v,g)=>next v ⟨g,σ.next⟩
  |none=>False
 |_=>match eU o.op (dm env) (fW o.hid σ.next σ.get) ⟨o.site,σ.next⟩with
  |some (v,some r)=>next v ⟨bQ σ.get ⟨o.site,σ.next⟩ r,σ.next⟩
  |some (v,none)=>next v σ
  |none=>False
def wpOps (X:fZ) (draw:Bool):List br->(Env->au->Prop)->Env->au->Prop
 |[],K,env,σ=>K env ⟨σ.get,σ.next+1⟩
 |o::r,K,env,σ=>
  if aQ o.guard env then fM X draw o env σ fun v σ'=>wpOps X draw r K (upd env o.dst v) σ'
  else wpOps X draw r K (upd env o.dst .undef) σ
def cJ:List br->(Env->au->Prop)->Env->au->Prop
 |[],K,env,σ=>K env ⟨σ.get,σ.next+1⟩
 |o::r,K,env,σ=>o.guard=none/\match o.op with
  | .snd x y=>match ej σ.get (dm env x) (dm env y)with
   |some g=>cJ r K (upd env o.dst .undef) ⟨g,σ.next⟩
   |none=>False
  | .QG x=>match ei σ.get (dm env x)with
   |some (v,g)=>cJ r K (upd env o.dst v) ⟨g,σ.next⟩
   |none=>False
  |op=>match eU op (dm env) σ.get ⟨o.site,σ.next⟩with
   |some (v,none)=>cJ r K (upd env o.dst v) σ
   |_=>False
def dv (next:Env->au->Prop) (Q:Ex->Env->au->Prop):Ex->Env->au->Prop
 | .normal=>next
 |e=>Q e
def bl (id:Nat) (Q:Ex->Env->au->Prop):Ex->Env->au->Prop
 | .exit kf=>if kf=id then Q .normal else Q (.exit kf)
 |e=>Q e
def GF (W:(Ex->Env->au->Prop)->Env->au->Prop) (Q:Ex->Env->au->Prop):Nat->Env->au->Prop
 |0=>fun _ _=>False
 |n+1=>W (dv (GF W Q n) Q)
def Nr (t s:Nat) (y:O) (env:Env) (n:Nat):Prop:=(∃len,env t=.own ⟨s,n⟩ 0 len)/\∀id o l,dm env y=.own id o l->id.bE≠n
def dQ (X:fZ):VC->(Ex->Env->au->Prop)->Env->au->Prop
 | .skip,Q=>Q .normal
 | .eS draw ops,Q=>wpOps X draw ops (Q .normal)
 | .seq a b,Q=>dQ X a (dv (dQ X b Q) Q)
 | .cond c x y,Q=>fun env σ=>match dm env c with
  | .bool b=>if b then dQ X x Q env σ else dQ X y Q env σ
  |_=>False
 | .block id c,Q=>dQ X c (bl id Q)
 | .loop c,Q=>fun env σ=>∃n,GF (dQ X c) Q n env σ
 | .exit id,Q=>Q (.exit id)
 | .ret,Q=>Q .ret
 | .one o c,Q=>fun env σ=>if aQ o.guard env then fM X false o env σ fun v σ'=>dQ X c Q (upd env o.dst v) σ' else dQ X c Q (upd env o.dst .undef) σ
 | .both a b,Q=>fun env σ=>dQ X a Q env σ/\dQ X b Q env σ
 | .loc t s y c,Q=>fun env σ=>Nr t s y env σ.next/\dQ X c Q env σ
 | .Pg ops,Q=>cJ ops (Q .normal)
def iG (env:Env) (g:Rows):ox->Option AV
 | .tmp t=>some (env t)
 | .cell agg n t=>ld g agg n (env t)
def fG (env:Env) (g:Rows):List ox->Option (List AV)
 |[]=>some []
 |r::l=>(iG env g r).bind fun v=>(fG env g l).map (v::·)
def eW:List AV->AV
 |[v]=>v
 |l=>.gD l
def cG (args:List AV):Env:=fun t=>args.getD t .undef
def kV (res:List ox) (K:AV->au->Prop):Ex->Env->au->Prop
 | .exit _,_,_=>False
 |_,env,σ=>∃vs,fG env σ.get res=some vs/\K (eW vs) σ
end Go.Proofs.YtgoelphibofcmaaGreat.V

namespace Go.Proofs.YtgoelphibofcmaaGreat.V
open Go.RowKit
inductive j0 (P:Program) (w:World) (D:Nat->Prop):AV->Value->Prop
 |int (k n):j0 P w D (.int k n) (.int k n)
 |bool (b):j0 P w D (.bool b) (.bool b)
 |str (s):j0 P w D (.str s) (.string s)
 |bD:j0 P w D .bD (.slice none 0 0)
 |gT:j0 P w D .gT (.pointer none)
 |jo:j0 P w D .jo .nilFunc
 |BM (a c):c<=maxLen->j0 P w D (.sl []) (.slice a 0 c)
 |sl (rows b o n c sz) (vs:Nat->Nat->Value):rows.length=n->n<=c->c<=maxLen->D b->(∀cs∈rows,cs.length=sz)->(∀cs∈rows,∀a∈cs,a.cell=true)->
   (∀i j,i<n->j<sz->w.cell? ⟨b,o+(i*sz+j),none⟩=some (vs i j))->
   (∀i j cs a,rows[i]? =some cs->cs[j]? =some a->j0 P w D a (vs i j))->j0 P w D (.sl rows) (.slice (some ⟨b,o,none⟩) n c)
 |du (cs b o) (vs:Nat->Value):D b->(∀a∈cs,a.cell=true)->(∀j,j<cs.length->w.cell? ⟨b,o+j,none⟩=some (vs j))->
   (∀j a,cs[j]? =some a->j0 P w D a (vs j))->j0 P w D (.du cs) (.pointer (some ⟨b,o,none⟩))
 |agg (cs) (vs:Array Value) (f:Nat->Value):vs.size=cs.length->(∀a∈cs,a.cell=true)->(∀j,j<cs.length->vs[j]? =some (f j))->(∀j a,cs[j]? =some a->j0 P w D a (f j))->j0 P w D (.agg cs) (.agg vs)
 |fn (f dp) (vs:Array Value) (g:Nat->Value):ga P f=true->vs.size=dp.length->(∀j,j<dp.length->vs[j]? =some (g j))->(∀j a,dp[j]? =some a->j0 P w D a (g j))->j0 P w D (.fn f dp) (.func (.func f) #[] vs)
 |jy:j0 P w D .jy (.map none)
inductive BK where
 |map (m:MK)
 |chan (cap:Nat)
structure s9 where
 b:Nat
 sz:Nat
 C:Nat
 k:Option BK
abbrev Names:=Id->Option s9
inductive di (P:Program) (w:World) (D:Nat->Prop) (ι:Names):AV->Value->Prop
 |eZ (a v):j0 P w D a v->di P w D ι a v
 |own (id off len o cap B):ι id=some B->B.k=none->len<=cap->(cap=0∨o=off*B.sz)->(off+cap)*B.sz<=B.C->cap<=maxLen->di P w D ι (.own id off len) (.slice (some ⟨B.b,o,none⟩) len cap)
 |ptr (id i off B):ι id=some B->B.k=none->di P w D ι (.ptr id i off) (.pointer (some ⟨B.b,i*B.sz+off,none⟩))
 |agg (cs) (vs:Array Value) (f:Nat->Value):vs.size=cs.length->(∀a∈cs,a.cell=true)->(∀j,j<cs.length->vs[j]? =some (f j))->(∀j a,cs[j]? =some a->di P w D ι a (f j))->di P w D ι (.agg cs) (.agg vs)
 |gD (cs) (vs:Array Value) (f:Nat->Value):vs.size=cs.length->(∀j,j<cs.length->vs[j]? =some (f j))->(∀j a,cs[j]? =some a->di P w D ι a (f j))->di P w D ι (.gD cs) (.tuple vs)
 |fn (f dp) (vs:Array Value) (g:Nat->Value):ga P f=true->vs.size=dp.length->(∀j,j<dp.length->vs[j]? =some (g j))->(∀j a,dp[j]? =some a->di P w D ι a (g j))->di P w D ι (.fn f dp) (.func (.func f) #[] vs)
 |r6 (id c B):ι id=some B->B.k=some (.chan c)->di P w D ι (.r6 id) (.chan (some B.b))
 |map (id m B):ι id=some B->B.k=some (.map m)->di P w D ι (.map id m) (.map (some B.b))
 |uE (f dp) (vs:Array Value) (g:Nat->Value):ga P f=true->vs.size=dp.length->(∀j,j<dp.length->vs[j]? =some (g j))->(∀j a,dp[j]? =some a->di P w D ι a (g j))->di P w D ι (.uE f dp) (.func (.func f) vs #[])
variable {P:Program} {w w':World} {D D':Nat->Prop} {ι ι':Names}
theorem j0.frame (hD:∀b,D b->w'.heap[b]? =w.heap[b]?) (hs:∀b,D b->D' b) {a:AV} {v:Value} (h:j0 P w D a v):j0 P w' D' a v:=by
 induction h with
 |int k n=>exact .int k n
 |bool b=>exact .bool b
 |str s=>exact .str s
 |bD=>exact .bD
 |gT=>exact .gT
 |jo=>exact .jo
 |jy=>exact .jy
 |BM a c h=>exact .BM a c h
 |sl rows b o n c sz vs h1 h2 h3 h4 h5 h5' h6 _ ih=>exact .sl rows b o n c sz vs h1 h2 h3 (hs b h4) h5 h5' (fun i j hi hj=>(World.cell?_of_block (hD b h4)).trans (h6 i j hi hj)) ih
 |du cs b o vs h1 Px h2 _ ih=>exact .du cs b o vs (hs b h1) Px (fun j hj=>(World.cell?_of_block (hD b h1)).trans (h2 j hj)) ih
 |agg cs vs f h1 h2 h3 _ ih=>exact .agg cs vs f h1 h2 h3 ih
 |fn f dp vs g h1 h2 h3 _ ih=>exact .fn f dp vs g h1 h2 h3 ih
theorem di.frame (hD:∀b,D b->w'.heap[b]? =w.heap[b]?) (hs:∀b,D b->D' b) (hι:∀id B,ι id=some B->ι' id=some B) {a:AV} {v:Value} (h:di P w D ι a v):di P w' D' ι' a v:=by
 induction h with
 |eZ a v h=>exact .eZ a v (h.frame hD hs)
 |map id m B h1 h2=>exact .map id m B (hι _ _ h1) h2
 |r6 id c B h1 h2=>exact .r6 id c B (hι _ _ h1) h2
 |own id off len o cap B h1 h2 h3 h4 h5 h6=>exact .own id off len o cap B (hι _ _ h1) h2 h3 h4 h5 h6
 |ptr id i off B h1 h2=>exact .ptr id i off B (hι _ _ h1) h2
 |agg cs vs f h1 h2 h3 _ ih=>exact .agg cs vs f h1 h2 h3 ih
 |gD cs vs f h1 h2 _ ih=>exact .gD cs vs f h1 h2 ih
 |fn f dp vs g h1 h2 h3 _ ih=>exact .fn f dp vs g h1 h2 h3 ih
 |uE f dp vs g h1 h2 h3 _ ih=>exact .uE f dp vs g h1 h2 h3 ih
theorem di.undef:di P w D ι .undef Go.undef:=.gD [] #[] (fun _=>Go.undef) rfl (fun j hj=>by simp at hj) (fun j a h=>by simp at h)
theorem xN (c:K):di P w D ι c.av c.val:=by
 cases c with
 |int k n=>exact .eZ _ _ (.int k n)
 |bool b=>exact .eZ _ _ (.bool b)
 |str l=>exact .eZ _ _ (.str _)
 |bD=>exact .eZ _ _ .bD
 |gT=>exact .eZ _ _ .gT
 |jo=>exact .eZ _ _ .jo
 |jy=>exact .eZ _ _ .jy
theorem K.nD (c:K):c.av.cell=true:=by cases c<;>rfl
theorem AH {v:Value} {c:K} (h:HR v=some c):v=c.val:=by
 unfold HR at h
 split at h<;>simp at h<;>subst h<;>rfl
theorem di.B9 {a:AV} {v:Value} (h:di P w D ι a v) (hc:a.cell=true):v.cells= #[v]/\(∀vs,v≠.agg vs)/\(∀vs,v≠.tuple vs):=by
 cases h with
 |eZ a v h=>cases h<;>simp_all [AV.cell,Value.cells]
 |own=>simp[Value.cells]
 |map=>simp[Value.cells]
 |r6=>simp[Value.cells]
 |ptr=>simp[Value.cells]
 |agg=>simp[AV.cell]at hc
 |gD=>simp[AV.cell]at hc
 |fn=>simp[Value.cells]
 |uE=>simp[Value.cells]
theorem di.cells {a:AV} {v:Value} (h:di P w D ι a v) (ha:a.cells.all AV.cell=true):v.cells.size=a.cells.length/\∃f:Nat->Value,(∀j,j<a.cells.length->v.cells[j]? =some (f j))/\∀j x,a.cells[j]? =some x->di P w D ι x (f j):=by
 have one:∀(a:AV) (v:Value),a.cell=true->a.cells=[a]->di P w D ι a v->v.cells.size=a.cells.length/\∃f:Nat->Value,(∀j,j<a.cells.length->v.cells[j]? =some (f j))/\∀j x,a.cells[j]? =some x->di P w D ι x (f j):=by
  intro a v hc dC h
  obtain⟨h1,_,_⟩:=h.B9 hc
  rw[h1,dC]
  refine⟨rfl,fun _=>v,fun j hj=>?_,fun j x hx=>?_⟩
  ·have:j=0:=by simp at hj;omega
   subst this;rfl
  ·cases j with
   |zero=>simp at hx;subst hx;exact h
   |succ j=>simp at hx
 cases h with
 |eZ a v h=>
  cases h with
  |agg cs vs f h1 h2 h3 h4=>exact⟨h1,f,h3,fun j x hx=>.eZ _ _ (h4 j x hx)⟩
  |_=>exact one _ _ rfl rfl (.eZ _ _ (by constructor<;>assumption))
 |own id off len o cap B h1 h2 h3 h4 h5 h6=>exact one _ _ rfl rfl (.own id off len o cap B h1 h2 h3 h4 h5 h6)
 |ptr id i off B h1 h2=>exact one _ _ rfl rfl (.ptr id i off B h1 h2)
 |map id m B h1 h2=>exact one _ _ rfl rfl (.map id m B h1 h2)
 |r6 id c B h1 h2=>exact one _ _ rfl rfl (.r6 id c B h1 h2)
 |agg cs vs f h1 h2 h3 h4=>exact⟨h1,f,h3,h4⟩
 |gD cs vs f h1 h2 h3=>simp[AV.cells,AV.cell]at ha
 |fn f dp vs g h1 h2 h3 h4=>exact one _ _ rfl rfl (.fn f dp vs g h1 h2 h3 h4)
 |uE f dp vs g h1 h2 h3 h4=>exact one _ _ rfl rfl (.uE f dp vs g h1 h2 h3 h4)
structure lT (P:Program) (w:World) (D:Nat->Prop) (ι:Names) (B:s9) (r:Row):Prop where
 sz:B.sz=r.sz
 yv:∃cells T,w.heap[B.b]? =some (.cells cells T (0,0))/\cells.size=B.C
 fits:r.rows.length*r.sz<=B.C
 len:∀cs∈r.rows,cs.length=r.sz
 flat:∀cs∈r.rows,∀a∈cs,a.cell=true
 at_:∀i j cs a,r.rows[i]? =some cs->cs[j]? =some a->∃v,w.cell? ⟨B.b,i*r.sz+j,none⟩=some v/\di P w D ι a v
def Mo (es:Array MapEntry) (clock:Nat):Prop:=(∀x∈es.toList,x.born<clock)/\(es.toList.map (·.born)).Nodup
def N8 (P:Program) (w:World) (D:Nat->Prop) (ι:Names) (B:s9) (m:MK) (r:Row):Prop:=
 ∃(es:Array MapEntry) (clock:Nat),w.heap[B.b]? =some (.map es clock)/\es.size=r.rows.length/\((∀cs∈r.rows,cs.length=m.ks+1)/\Mo es clock)/\
  ∀(i:Nat) (cs:List AV),r.rows[i]? =some cs->∃(e:MapEntry) (kv vv:AV),es[i]? =some e/\part m.ka m.ks cs=some kv/\cs[m.ks]? =some vv/\di P w D ι kv e.key/\di P w D ι vv e.val
def Jd (P:Program) (w:World) (D:Nat->Prop) (ι:Names) (B:s9) (c:Nat) (r:Row):Prop:=
 ∃(buf:Array Value) (s q:Nat),w.heap[B.b]? =some (.chan c buf false s q false)/\buf.size=r.rows.length/\
  ∀(i:Nat) (cs:List AV),r.rows[i]? =some cs->∃(a:AV) (u:Value),cs=[a]/\buf[i]? =some u/\di P w D ι a u
structure ib (P:Program) (w:World) (D:Nat->Prop) (ι:Names) (B:s9) (r:Row):Prop where
 sz:B.sz=r.sz
 flat:∀cs∈r.rows,∀a∈cs,a.cell=true
 row:B.k=none->lT P w D ι B r
 map:∀m,B.k=some (.map m)->r.sz=m.qe/\N8 P w D ι B m r
 chan:∀c,B.k=some (.chan c)->r.sz=qU+c/\Jd P w D ι B c r
theorem lT.obj {B:s9} {r:Row} (R:lT P w D ι B r) (h:B.k=none):ib P w D ι B r:=⟨R.sz,R.flat,fun _=>R,fun m hm=>(by rw[h]at hm;cases hm),fun m hm=>by rw[h]at hm;cases hm⟩
theorem ib.flag {B:s9} {r:Row} (R:ib P w D ι B r) (b:Bool):ib P w D ι B {r with w:=b}:=⟨R.sz,R.flat,fun h=>⟨R.sz,(R.row h).yv,(R.row h).fits,(R.row h).len,R.flat,(R.row h).at_⟩,R.map,R.chan⟩
theorem ib.cells {B:s9} {r:Row} (R:ib P w D ι B r) (h:r.sz<sE):B.k=none:=by
 cases hk:B.k with
 |none=>rfl
 |some m=>
  cases m with
  |map m=>
   have h1:=(R.map m hk).1
   unfold MK.qe at h1
   omega
  |chan c=>
   have h1:=(R.chan c hk).1
   unfold qU at h1
   unfold sE at h
   omega
theorem ib.Ny {B:s9} {r:Row} (R:ib P w D ι B r) {c:Array Value} {T:TypeId} {z:Nat×Nat} (h:w.heap[B.b]? =some (.cells c T z)):B.k=none:=by
 cases hk:B.k with
 |none=>rfl
 |some m=>
  cases m with
  |map m=>obtain⟨_,es,c,h3,_⟩:=R.map m hk;rw[h]at h3;cases h3
  |chan c=>obtain⟨_,buf,s,q,h3,_⟩:=R.chan c hk;rw[h]at h3;cases h3
theorem ib.lt {B:s9} {r:Row} (R:ib P w D ι B r):B.b<w.heap.size:=by
 cases h:B.k with
 |none=>
  obtain⟨c,T,h3,_⟩:=(R.row h).yv
  exact(Array.getElem?_eq_some_iff.1 h3).1
 |some m=>
  cases m with
  |map m=>obtain⟨_,es,c,h3,_⟩:=R.map m h;exact(Array.getElem?_eq_some_iff.1 h3).1
  |chan c=>obtain⟨_,buf,s,q,h3,_⟩:=R.chan c h;exact(Array.getElem?_eq_some_iff.1 h3).1
structure gJ (P:Program) (hs:Nat) (D:Nat->Prop) (ι:Names) (g:Rows) (w:World):Prop where
 lo:hs<=w.heap.size
 dead:∀b,D b->b<w.heap.size
 row:∀id r,g id=some r->∃B,ι id=some B/\ib P w D ι B r/\(r.w=true->hs<=B.b)/\(r.w=true->¬D B.b)
 inj:∀id kf r r' B B',g id=some r->g kf=some r'->r.w=true->ι id=some B->ι kf=some B'->B.b=B'.b->id=kf
def Used (ι:Names) (n:Nat) (U:Nat->Prop):Prop:=∀id,ι id≠none->id.bE<n∨(id.bE=n/\U id.site)
structure Step (hs:Nat) (D:Nat->Prop) (ι:Names) (w:World) (D':Nat->Prop) (ι':Names) (w':World):Prop where
 below:Below hs w w'
 rE:∀b,D b->w'.heap[b]? =w.heap[b]?
 dead:∀b,D b->D' b
 names:∀id B,ι id=some B->ι' id=some B
 new:∀b,D' b->D b∨hs<=b
theorem Step.refl (hs:Nat) (D:Nat->Prop) (ι:Names) (w:World):Step hs D ι w D ι w:=⟨Below.refl _ _,fun _ _=>rfl,fun _ h=>h,fun _ _ h=>h,fun _ h=>.inl h⟩
theorem Step.trans {hs:Nat} {D D' D'':Nat->Prop} {ι ι' T8:Names} {w w' Mj:World} (h:Step hs D ι w D' ι' w') (k:Step hs D' ι' w' D'' T8 Mj):Step hs D ι w D'' T8 Mj:=
 ⟨h.below.trans k.below,fun b hb=>(k.rE b (h.dead b hb)).trans (h.rE b hb),fun b hb=>k.dead b (h.dead b hb),fun id B hB=>k.names id B (h.names id B hB),fun b hb=>by
  rcases k.new b hb with hb|hb
  ·exact h.new b hb
  ·exact .inr hb⟩
theorem Step.rep {hs:Nat} {D D':Nat->Prop} {ι ι':Names} {w w':World} (h:Step hs D ι w D' ι' w') {a:AV} {v:Value} (hr:di P w D ι a v):di P w' D' ι' a v:=hr.frame h.rE h.dead h.names
theorem dD {k n} {v:Value} (h:di P w D ι (.int k n) v):v=.int k n:=by
 cases h with
 |eZ _ _ h=>cases h;rfl
theorem fA {b} {v:Value} (h:di P w D ι (.bool b) v):v=.bool b:=by
 cases h with
 |eZ _ _ h=>cases h;rfl
theorem fR {s} {v:Value} (h:di P w D ι (.str s) v):v=.string s:=by
 cases h with
 |eZ _ _ h=>cases h;rfl
theorem kD {v:Value} (h:di P w D ι .bD v):v=.slice none 0 0:=by
 cases h with
 |eZ _ _ h=>cases h;rfl
theorem xO {v:Value} (h:di P w D ι .jo v):v=.nilFunc:=by
 cases h with
 |eZ _ _ h=>cases h;rfl
theorem jh {cs} {v:Value} (h:di P w D ι (.agg cs) v):∃(vs:Array Value) (f:Nat->Value),v=.agg vs/\vs.size=cs.length/\(∀a∈cs,a.cell=true)/\(∀j,j<cs.length->vs[j]? =some (f j))/\∀j a,cs[j]? =some a->di P w D ι a (f j):=by
 cases h with
 |eZ _ _ h=>
  cases h with
  |agg cs vs f h1 h2 h3 h4=>exact⟨vs,f,rfl,h1,h2,h3,fun j a h=>.eZ _ _ (h4 j a h)⟩
 |agg cs vs f h1 h2 h3 h4=>exact⟨vs,f,rfl,h1,h2,h3,h4⟩
theorem v8 {cs} {v:Value} (h:di P w D ι (.gD cs) v):∃(vs:Array Value) (f:Nat->Value),v=.tuple vs/\vs.size=cs.length/\(∀j,j<cs.length->vs[j]? =some (f j))/\∀j a,cs[j]? =some a->di P w D ι a (f j):=by
 cases h with
 |eZ _ _ h=>cases h
 |gD cs vs f h1 h2 h3=>exact⟨vs,f,rfl,h1,h2,h3⟩
theorem A6 {f dp} {v:Value} (h:di P w D ι (.fn f dp) v):∃(vs:Array Value) (g:Nat->Value),v=.func (.func f) #[] vs/\ga P f=true/\vs.size=dp.length/\(∀j,j<dp.length->vs[j]? =some (g j))/\∀j a,dp[j]? =some a->di P w D ι a (g j):=by
 cases h with
 |eZ _ _ h=>
  cases h with
  |fn f dp vs g h1 h2 h3 h4=>exact⟨vs,g,rfl,h1,h2,h3,fun j a h=>.eZ _ _ (h4 j a h)⟩
 |fn f dp vs g h1 h2 h3 h4=>exact⟨vs,g,rfl,h1,h2,h3,h4⟩
theorem Lh {v:Value} (h:di P w D ι .gT v):v=.pointer none:=by
 cases h with
 |eZ _ _ h=>cases h;rfl
theorem Dq {v:Value} (h:di P w D ι .jy v):v=.map none:=by
 cases h with
 |eZ _ _ h=>cases h;rfl
theorem NO {f dp} {v:Value} (h:di P w D ι (.uE f dp) v):∃(vs:Array Value) (g:Nat->Value),v=.func (.func f) vs #[]/\ga P f=true/\vs.size=dp.length/\(∀j,j<dp.length->vs[j]? =some (g j))/\∀j a,dp[j]? =some a->di P w D ι a (g j):=by
 cases h with
 |eZ _ _ h=>cases h
 |uE f dp vs g h1 h2 h3 h4=>exact⟨vs,g,rfl,h1,h2,h3,h4⟩
theorem ji {id off len} {v:Value} (h:di P w D ι (.own id off len) v):∃o cap B,v=.slice (some ⟨B.b,o,none⟩) len cap/\ι id=some B/\len<=cap/\(cap=0∨o=off*B.sz)/\(off+cap)*B.sz<=B.C/\cap<=maxLen/\B.k=none:=by
 cases h with
 |eZ _ _ h=>cases h
 |own id off len o cap B h1 h2 h3 h4 h5 h6=>exact⟨o,cap,B,rfl,h1,h3,h4,h5,h6,h2⟩
theorem iS {id i off} {v:Value} (h:di P w D ι (.ptr id i off) v):∃B,v=.pointer (some ⟨B.b,i*B.sz+off,none⟩)/\ι id=some B/\B.k=none:=by
 cases h with
 |eZ _ _ h=>cases h
 |ptr id i off B h1 h2=>exact⟨B,rfl,h1,h2⟩
theorem NM {id} {v:Value} (h:di P w D ι (.r6 id) v):∃B c,v=.chan (some B.b)/\ι id=some B/\B.k=some (.chan c):=by
 cases h with
 |eZ _ _ h=>cases h
 |r6 id c B h1 h2=>exact⟨B,c,rfl,h1,h2⟩
theorem GP {id m} {v:Value} (h:di P w D ι (.map id m) v):∃B,v=.map (some B.b)/\ι id=some B/\B.k=some (.map m):=by
 cases h with
 |eZ _ _ h=>cases h
 |map id m B h1 h2=>exact⟨B,rfl,h1,h2⟩
theorem lD {cs} {v:Value} (h:di P w D ι (.du cs) v):∃b o,∃vs:Nat->Value,v=.pointer (some ⟨b,o,none⟩)/\D b/\(∀a∈cs,a.cell=true)/\(∀j,j<cs.length->w.cell? ⟨b,o+j,none⟩=some (vs j))/\∀j a,cs[j]? =some a->j0 P w D a (vs j):=by
 cases h with
 |eZ _ _ h=>
  cases h with
  |du cs b o vs h1 h2 h3 h4=>exact⟨b,o,vs,rfl,h1,h2,h3,h4⟩
theorem xP {rows} {v:Value} (h:di P w D ι (.sl rows) v):∃A c,v=.slice A rows.length c/\rows.length<=c/\c<=maxLen/\
  (rows=[]∨∃b o sz,∃vs:Nat->Nat->Value,A=some ⟨b,o,none⟩/\D b/\(∀cs∈rows,cs.length=sz)/\(∀cs∈rows,∀a∈cs,a.cell=true)/\
   (∀i j,i<rows.length->j<sz->w.cell? ⟨b,o+(i*sz+j),none⟩=some (vs i j))/\∀i j cs a,rows[i]? =some cs->cs[j]? =some a->j0 P w D a (vs i j)):=by
 cases h with
 |eZ _ _ h=>
  cases h with
  |BM a c h=>exact⟨a,c,rfl,Nat.zero_le _,h,.inl rfl⟩
  |sl rows b o n c sz vs h1 h2 h3 h4 h5 h5' h6 h7=>subst h1;exact⟨_,c,rfl,h2,h3,.inr ⟨b,o,sz,vs,rfl,h4,h5,h5',h6,h7⟩⟩
inductive eP:AV->Prop
 |int (k n):eP (.int k n)
 |bool (b):eP (.bool b)
 |str (s):eP (.str s)
 |bD:eP .bD
 |gT:eP .gT
 |jo:eP .jo
 |sl (rows):rows.length<=maxLen->(∀cs∈rows,∀a∈cs,eP a)->eP (.sl rows)
 |own (id off len):eP (.own id off len)
 |ptr (id i off):eP (.ptr id i off)
 |du (cs):(∀a∈cs,eP a)->eP (.du cs)
 |agg (cs):(∀a∈cs,eP a)->eP (.agg cs)
 |gD (cs):(∀a∈cs,eP a)->eP (.gD cs)
 |fn (f dp):(∀a∈dp,eP a)->eP (.fn f dp)
 |map (id m):eP (.map id m)
 |r6 (id):eP (.r6 id)
 |jy:eP .jy
 |uE (f dp):(∀a∈dp,eP a)->eP (.uE f dp)
theorem eP.len {rows:List (List AV)} (h:eP (.sl rows)):rows.length<=9223372036854775807:=by
 cases h with
 |sl _ h _=>unfold maxLen at h;omega
theorem eP.cell {rows:List (List AV)} (h:eP (.sl rows)) {cs:List AV} (hc:cs∈rows) {a:AV} (ha:a∈cs):eP a:=by
 cases h with
 |sl _ _ h=>exact h cs hc a ha
theorem eP.O7 {cs:List AV} (h:eP (.agg cs)) {a:AV} (ha:a∈cs):eP a:=by
 cases h with
 |agg _ h=>exact h a ha
theorem eP.CP {cs:List AV} (h:eP (.du cs)) {a:AV} (ha:a∈cs):eP a:=by
 cases h with
 |du _ h=>exact h a ha
theorem pz {l:List AV} {p:AV->Prop} (h:∀(j:Nat) (a:AV),l[j]? =some a->p a):∀a∈l,p a:=fun a ha=>by
 obtain⟨j,hj,rfl⟩:=List.getElem_of_mem ha
 exact h j _ (List.getElem?_eq_getElem hj)
theorem j0.KI {a:AV} {v:Value} (h:j0 P w D a v):eP a:=by
 induction h with
 |int k n=>exact .int k n
 |bool b=>exact .bool b
 |str s=>exact .str s
 |bD=>exact .bD
 |gT=>exact .gT
 |jo=>exact .jo
 |jy=>exact .jy
 |BM a c h=>exact .sl [] (Nat.zero_le _) (fun cs h=>by cases h)
 |sl rows b o n c sz vs h1 h2 h3 h4 h5 h5' h6 _ ih=>
  exact .sl rows (by omega) fun cs dC a ha=>by
   obtain⟨i,hi,rfl⟩:=List.getElem_of_mem dC
   obtain⟨j,hj,rfl⟩:=List.getElem_of_mem ha
   exact ih i j _ _ (List.getElem?_eq_getElem hi) (List.getElem?_eq_getElem hj)
 |du cs b o vs h1 Px h2 _ ih=>exact .du cs (pz ih)
 |agg cs vs f h1 h2 h3 _ ih=>exact .agg cs (pz ih)
 |fn f dp vs g h1 h2 h3 _ ih=>exact .fn f dp (pz ih)
theorem di.KI {a:AV} {v:Value} (h:di P w D ι a v):eP a:=by
 induction h with
 |eZ a v h=>exact h.KI
 |own id off len o cap B=>exact .own _ _ _
 |ptr id i off B=>exact .ptr _ _ _
 |map id m B=>exact .map _ _
 |r6 id c B=>exact .r6 _
 |agg cs vs f h1 h2 h3 _ ih=>exact .agg cs (pz ih)
 |gD cs vs f h1 h2 _ ih=>exact .gD cs (pz ih)
 |fn f dp vs g h1 h2 h3 _ ih=>exact .fn f dp (pz ih)
 |uE f dp vs g h1 h2 h3 _ ih=>exact .uE f dp (pz ih)
end Go.Proofs.YtgoelphibofcmaaGreat.V

namespace Go.Proofs.YtgoelphibofcmaaGreat.V
open Go.RowKit
variable {P:Program} {w w':World} {D D':Nat->Prop} {ι ι':Names}
def cI (P:Program) (w:World) (D:Nat->Prop) (ι:Names) (env:Env) (a:Act):Prop:=∀t,di P w D ι (env t) (a.tmps.getD t undef)
theorem sC {vs:List Value} {cs:List K} (h:vs.mapM HR=some cs):cs.length=vs.length/\∀(j:Nat) (c:K),cs[j]? =some c->vs[j]? =some c.val:=by
 induction vs generalizing cs with
 |nil=>simp at h;subst h;simp
 |cons v r ih=>
  simp only[List.mapM_cons,Option.bind_eq_bind,Option.bind_eq_some_iff]at h
  obtain⟨c,hc,qp,dC,h⟩:=h
  simp at h;subst h
  obtain⟨h1,h2⟩:=ih dC
  refine⟨by simp[h1],fun j d hd=>?_⟩
  cases j with
  |zero=>simp at hd ⊢;subst hd;exact AH hc
  |succ j=>simp at hd ⊢;exact h2 j d hd
theorem WJ {vs:List Value} {cs:List K} (h:vs.mapM HR=some cs):di P w D ι (.agg (cs.map K.av)) (.agg vs.toArray):=by
 obtain⟨h1,h2⟩:=sC h
 refine .agg _ _ (fun j=>vs.getD j undef) (by simp[h1]) (fun a ha=>?_) (fun j hj=>?_) (fun j a ha=>?_)
 ·obtain⟨c,_,rfl⟩:=List.mem_map.1 ha;exact c.nD
 ·simp at hj;simp[List.getElem?_eq_getElem (show j<vs.length by omega)]
 ·simp only[List.getElem?_map,Option.map_eq_some_iff]at ha
  obtain⟨c,hc,rfl⟩:=ha
  rw[List.getD_eq_getElem?_getD,h2 j c hc];exact xN c
theorem dw {env:Env} {a:Act} {x:Operand} {y:O} (E:cI P w D ι env a) (h:cO P x=some y):di P w D ι (dm env y) (a.eval x):=by
 unfold cO at h
 split at h
 ·simp at h;subst h;exact E _
 ·simp only[Option.map_eq_some_iff]at h
  obtain⟨cs,dC,rfl⟩:=h
  have:=WJ (P:=P) (w:=w) (D:=D) (ι:=ι) dC
  simpa[Act.eval,dm]using this
 ·simp only[Option.map_eq_some_iff]at h
  obtain⟨c,hc,rfl⟩:=h
  simp only[Act.eval,dm]
  rw[AH hc];exact xN c
 ·simp at h
 ·split at h
  ·rename_i hc
   simp at h;subst h
   simp only[Act.eval,dm]
   exact .fn _ _ _ (fun _=>undef) hc rfl (fun j hj=>by simp at hj) (fun j a h=>by simp at h)
  ·simp at h
def oU (P:Program) (a:Act) (o:Oper) (w:World) (D:Nat->Prop) (ι:Names) (v:AV):Prop:=∃u,(execOp a.eval o).run P w=.ok (.value u) w/\di P w D ι v u
section
variable {g:Rows} {hs:Nat} {env:Env} {a:Act} {o:Oper} {id:Id} {v:AV}
theorem OV {x:Operand} {y:O} (E:cI P w D ι env a) (ho:o.op=.move x∨o.op=.assign x) (hx:cO P x=some y):oU P a o w D ι (dm env y):=by
 refine⟨a.eval x,?_,dw E hx⟩
 rcases ho with h|h<;>simp[execOp,h,go_sem]
theorem Rf {c x y:Operand} {c' x' y':O} (E:cI P w D ι env a) (ho:o.op=.pick c x y) (hc:cO P c=some c') (hx:cO P x=some x') (hy:cO P y=some y') (hv:de (dm env c') (dm env x') (dm env y')=some v):oU P a o w D ι v:=by
 unfold de at hv
 split at hv
 ·rename_i b hb
  simp at hv;subst hv
  have h1:=fA (hb▸dw E hc)
  refine⟨if b then a.eval x else a.eval y,by simp only[execOp,ho,h1,asBool];rfl,?_⟩
  cases b
  ·exact dw E hy
  ·exact dw E hx
 ·simp at hv
theorem TP {op:BinOp} {x y:Operand} {x' y':O} {t yt:TypeId} (E:cI P w D ι env a) (ho:o.op=.binOp op t x y yt) (he:op≠.eql) (hn:op≠.neq) (hx:cO P x=some x') (hy:cO P y=some y') (hv:ea op (dm env x') (dm env y')=some v):oU P a o w D ι v:=by
 unfold ea at hv
 split at hv
 ·rename_i k n k' m hb tE
  split at hv
  ·rename_i hk
   subst hk
   have h1:=dD (hb▸dw E hx)
   have h2:=dD (tE▸dw E hy)
   have key:∀u,(binOp op t (.int k n) (.int k m)).run P w=.ok u w->(execOp a.eval o).run P w=.ok (.value u) w:=fun u hu=>by
    have e0:eqGuard op t x y (.int k n) (.int k m)=pure ():=by unfold eqGuard;cases op<;>rfl
    simp only[execOp,ho,h1,h2,e0]
    simp[go_sem,hu]
   cases op<;>simp only[dE]at hv<;>(try(simp at hv;done))<;>(try split at hv)<;>(try(simp at hv;done))<;>simp only[Option.some.injEq]at hv<;>subst hv<;>
    (refine⟨_,key _ (by simp only[binOp,ne_eq,not_true_eq_false,if_false,Op.intArith,Op.intDiv,Op.intBits,Op.intCmp, *];rfl),?_⟩)<;>
    first
     |exact .eZ _ _ (.int _ _)
     |exact .eZ _ _ (.bool _)
  ·simp at hv
 ·simp at hv
theorem Q0 {op:BinOp} {x y:Operand} {x' y':O} {t yt:TypeId} (E:cI P w D ι env a) (ho:o.op=.binOp op t x y yt) (he:op≠.eql) (hn:op≠.neq) (hx:cO P x=some x') (hy:cO P y=some y') (hv:dh op (dm env x') (dm env y')=some v):oU P a o w D ι v:=by
 unfold dh at hv
 split at hv
 ·rename_i n m hb tE
  have h1:=fR (hb▸dw E hx)
  have h2:=fR (tE▸dw E hy)
  cases op<;>simp only[eo]at hv<;>(try(simp at hv;done))
  case add=>
   split at hv
   ·rename_i hl
    simp only[Option.some.injEq]at hv;subst hv
    exact⟨_,by simp only[execOp,ho,h1,h2];simp[eqGuard,binOp,go_sem];exact hl,.eZ _ _ (.str _)⟩
   ·simp at hv
  all_goals
   simp only[Option.some.injEq]at hv;subst hv
   exact⟨_,by simp only[execOp,ho,h1,h2];simp[eqGuard,binOp,Op.stringOp,go_sem],.eZ _ _ (.bool _)⟩
 ·simp at hv
theorem GW (n m:ByteArray):(n.toList==m.toList)=decide (n=m):=by
 rw[ByteArray.toList_eq,ByteArray.toList_eq]
 by_cases h:n=m
 ·subst h;simp
 ·have:n.data.toList≠m.data.toList:=fun he=>h (ByteArray.ext (Array.ext' he))
  rw[decide_eq_false h];exact beq_eq_false_iff_ne.2 this
theorem qg {t:TypeId} (h:fI P t=some .tB):P.underlying t=some .bool:=by unfold fI at h;split at h<;>simp_all
theorem qh {t:TypeId} (h:fI P t=some .tI):∃k,P.underlying t=some (.int k):=by unfold fI at h;split at h<;>simp_all
theorem qi {t:TypeId} (h:fI P t=some .tS):P.underlying t=some .string:=by unfold fI at h;split at h<;>simp_all
theorem sP {d:Nat} {t:TypeId} {s:TS} {x y:AV} {u u':Value} {b:Bool} (hx:di P w D ι x u) (hy:di P w D ι y u') (hv:fV s x y=some b) (ht:fI P t=some s):(Op.equalIn (d+1) t u u').run P w=.ok b w:=by
 unfold fV at hv
 split at hv
 ·rename_i k n k' m
  split at hv
  ·rename_i hk
   subst hk
   simp at hv;subst hv
   obtain⟨q,hq⟩:=qh ht
   rw[dD hx,dD hy,run_equalIn_int _ _ _ _ _ _ _ hq];rfl
  ·simp at hv
 ·simp at hv;subst hv
  rw[fA hx,fA hy,run_equalIn_bool' _ _ _ _ _ (qg ht)]
 ·simp at hv;subst hv
  rw[fR hx,fR hy,run_equalIn_string _ _ _ _ _ (qi ht),GW]
 ·simp at hv
def fF (P:Program) (w:World) (D:Nat->Prop) (ι:Names) (xs:List AV) (vs:Array Value):Prop:=vs.size=xs.length/\∀(j:Nat) (a:AV),xs[j]? =some a->∃u,vs[j]? =some u/\di P w D ι a u
theorem fF.part {xs:List AV} {vs:Array Value} (h:fF P w D ι xs vs) (off n:Nat) (hn:off+n<=xs.length):fF P w D ι ((xs.drop off).take n) (vs.extract off (off+n)):=by
 refine⟨by simp[h.1];omega,fun j a ha=>?_⟩
 rw[List.getElem?_take]at ha
 split at ha
 ·rename_i hj
  rw[List.getElem?_drop]at ha
  obtain⟨u,h1,h2⟩:=h.2 _ _ ha
  refine⟨u,?_,h2⟩
  rw[Array.getElem?_extract]
  rw[if_pos (by rw[h.1];omega),h1]
 ·simp at ha
theorem sa:∀{ts:List TS} {xs ys:List AV} {b:Bool},fj ts xs ys=some b->xs.length=ts.length/\ys.length=ts.length
 |[],[],[],_,_=>⟨rfl,rfl⟩
 |t::ts,x::xs,y::ys,b,h=>by
  unfold fj at h
  split at h
  ·rename_i c d h1 h2
   have:=sa h2
   simp[this.1,this.2]
  ·simp at h
 |[],[],_::_,_,h=>by simp[fj]at h
 |[],_::_,_,_,h=>by simp[fj]at h
 |_::_,[],_,_,h=>by simp[fj]at h
 |_::_,_::_,[],_,h=>by simp[fj]at h
theorem Gf:∀{ts us:List TS} {xs ys:List AV} {b:Bool},fj (ts++us) xs ys=some b->∃c d,fj ts (xs.take ts.length) (ys.take ts.length)=some c/\fj us (xs.drop ts.length) (ys.drop ts.length)=some d/\b=(c&&d)
 |[],us,xs,ys,b,h=>⟨true,b,by simp[fj],by simpa using h,by simp⟩
 |t::ts,us,x::xs,y::ys,b,h=>by
  simp only[List.cons_append]at h
  unfold fj at h
  split at h
  ·rename_i c d h1 h2
   obtain⟨c',d',h3,h4,rfl⟩:=Gf h2
   simp at h;subst h
   exact⟨c&&c',d',by simp[fj,h1,h3],by simpa using h4,by simp[Bool.and_assoc]⟩
  ·simp at h
 |t::ts,us,[],ys,b,h=>by simp[fj]at h
 |t::ts,us,x::xs,[],b,h=>by simp[fj]at h
theorem ni {t:TypeId} {vs:Array Value} {off:Nat} {u:Value} (ha:oF P t=some false) (hu:vs[off]? =some u):(Go.part t vs off).run P w=.ok u w:=by
 unfold oF at ha
 have hi:(isAgg t).run P w=.ok false w:=by
  split at ha<;>simp at ha
  rename_i d h1 h2 hd
  simp only[isAgg,Sem.run_bind,run_underlying hd,Result.andThen_ok]
  cases d<;>simp_all
 simp[Go.part,hi,hu]
theorem tW {t:TypeId} {b:Bool} (ha:oF P t=some b):(isAgg t).run P w=.ok b w:=by
 unfold oF at ha
 split at ha<;>simp at ha<;>subst ha<;>rename_i hd<;>simp only[isAgg,Sem.run_bind,run_underlying hd,Result.andThen_ok]<;>(try simp)
theorem run_sizeOf {t:TypeId} {n:Nat} (h:eE P t=some n):(sizeOf t).run P w=.ok n w:=by
 unfold eE at h
 simp only[Option.map_eq_some_iff]at h
 obtain⟨i,hi,rfl⟩:=h
 simp[sizeOf,typeInfo,hi]
theorem qf {t:TypeId} {vs:Array Value} {off n:Nat} (ha:oF P t=some true) (hn:eE P t=some n):(Go.part t vs off).run P w=.ok (.agg (vs.extract off (off+n))) w:=by
 simp[Go.part,tW ha,run_sizeOf hn]
theorem JV (d off:Nat):eT P (d+1) off []=some []:=rfl
theorem zg (d off:Nat) (f:Field) (r:List Field):eT P (d+1) off (f::r)=(if f.offset=off/\f.name≠ "_" then
   match fI P f.type with
   |some t=>if oF P f.type=some false then(eT P (d+1) (off+1) r).map (t::·)else none
   |none=>match P.underlying f.type with
    |some (.struct fs)=>if !P.stoodInHeld f.type then match eT P d 0 fs.toList with
     |some ts=>if eE P f.type=some ts.length/\ts≠[]then(eT P (d+1) (off+ts.length) r).map (ts++·)else none
     |none=>none else none
    |_=>none
  else none):=rfl
theorem sO:∀(d:Nat) (fs:List Field) (off:Nat) (ts:List TS),eT P d off fs=some ts->∀(N:Nat) (_:d<=N) (xs ys:List AV) (vs us:Array Value) (b:Bool),fF P w D ι xs vs->fF P w D ι ys us->
  fj ts ((xs.drop off).take ts.length) ((ys.drop off).take ts.length)=some b->(Op.eqFields (N+1) vs us fs).run P w=.ok b w:=by
 intro d
 induction d with
 |zero=>
  intro fs off ts hf N _ xs ys vs us b _ _ he
  cases fs with
  |nil=>simp[eT]at hf;subst hf;simp[fj]at he;subst he;simp[Op.eqFields]
  |cons f r=>simp[eT]at hf
 |succ d ihd=>
  intro fs
  induction fs with
  |nil=>
   intro off ts hf N _ xs ys vs us b _ _ he
   rw[JV]at hf;simp at hf;subst hf;simp[fj]at he;subst he;simp[Op.eqFields]
  |cons f r ih=>
   intro off ts hf N hN xs ys vs us b hx hy he
   rw[zg]at hf
   split at hf
   ·rename_i hcond
    obtain⟨ho,gM⟩:=hcond
    split at hf
    ·rename_i s hs
     split at hf
     ·rename_i vP
      simp only[Option.map_eq_some_iff]at hf
      obtain⟨OS,hr,rfl⟩:=hf
      obtain⟨l1,l2⟩:=sa he
      simp only[List.length_cons,List.length_take,List.length_drop]at l1 l2
      have I4:off<xs.length:=by omega
      have hyo:off<ys.length:=by omega
      rw[List.drop_eq_getElem_cons I4,List.drop_eq_getElem_cons hyo,List.length_cons,List.take_succ_cons,List.take_succ_cons]at he
      unfold fj at he
      split at he
      ·rename_i c d' h1 h2
       simp at he;subst he
       obtain⟨u,hu,ru⟩:=hx.2 off _ (List.getElem?_eq_getElem I4)
       obtain⟨u',Gv,ru'⟩:=hy.2 off _ (List.getElem?_eq_getElem hyo)
       have:=ih (off+1) OS hr N hN xs ys vs us d' hx hy h2
       simp only[Op.eqFields,if_pos gM,Sem.run_bind,ho,ni vP hu,ni vP Gv,Result.andThen_ok,sP ru ru' h1 hs,Sem.run_ite]
       cases c<;>simp[this]
      ·simp at he
     ·simp at hf
    ·split at hf
     ·rename_i fs' sf
      split at hf
      ·rename_i dJ
       split at hf
       ·rename_i ts1 hts1
        split at hf
        ·rename_i fH
         simp only[Option.map_eq_some_iff]at hf
         obtain⟨OS,hr,rfl⟩:=hf
         obtain⟨c,d',h1,h2,rfl⟩:=Gf he
         obtain⟨l1,l2⟩:=sa he
         simp only[List.length_append,List.length_take,List.length_drop]at l1 l2
         have vP:oF P f.type=some true:=by simp[oF,sf]
         have kK:0<ts1.length:=List.length_pos_iff.2 fH.2
         have Gx:off+ts1.length<=xs.length:=by omega
         have RN:off+ts1.length<=ys.length:=by omega
         rw[List.drop_take,List.drop_drop,List.drop_take,List.drop_drop]at h2
         rw[List.take_take,List.take_take]at h1
         simp only[List.length_append]at h1 h2
         rw[Nat.min_eq_left (by omega)]at h1
         have e2:ts1.length+OS.length-ts1.length=OS.length:=by omega
         rw[e2]at h2
         have:=ih (off+ts1.length) OS hr N hN xs ys vs us d' hx hy h2
         have fe:=ihd fs'.toList 0 ts1 hts1 (N-1) (by omega) _ _ _ _ c (hx.part off ts1.length Gx) (hy.part off ts1.length RN) (by simpa[List.take_take]using h1)
         have hN':N-1+1=N:=by omega
         rw[hN']at fe
         have Oi:P.fieldsOf f.type=fs':=by simp[Program.fieldsOf,sf]
         simp only[Op.eqFields,if_pos gM,Sem.run_bind,ho,qf vP fH.1,Result.andThen_ok,Sem.run_ite]
         rw[run_equalIn_struct w N f.type _ _ (by rw[Oi];exact sf) (by simpa using dJ),Oi,fe]
         cases c<;>simp[this]
        ·simp at hf
       ·simp at hf
      ·simp at hf
     ·simp at hf
   ·simp at hf
theorem TV {x y:Operand} {x' y':O} {t yt:TypeId} {neg:Bool} {s:TS} {b:Bool} (E:cI P w D ι env a) (ho:o.op=.binOp (if neg then .neq else .eql) t x y yt) (hs:fI P t=some s) (hx:cO P x=some x') (hy:cO P y=some y')
  (hv:fV s (dm env x') (dm env y')=some b):oU P a o w D ι (.bool (dB neg b)):=by
 have rx:=dw E hx
 have ry:=dw E hy
 refine⟨.bool (dB neg b),?_,.eZ _ _ (.bool _)⟩
 have e0:(eqGuard (if neg then .neq else .eql) t x y (a.eval x) (a.eval y)).run P w=.ok () w:=by
  unfold fV at hv
  split at hv
  ·rename_i k n k' m h1 h2
   rw[h1]at rx;rw[h2]at ry
   rw[dD rx,dD ry];unfold eqGuard;cases neg<;>simp
  ·rename_i n m h1 h2
   rw[h1]at rx;rw[h2]at ry
   rw[fA rx,fA ry];unfold eqGuard;cases neg<;>simp
  ·rename_i n m h1 h2
   rw[h1]at rx;rw[h2]at ry
   rw[fR rx,fR ry];unfold eqGuard;cases neg<;>simp
  ·simp at hv
 have e1:(binOp (if neg then .neq else .eql) t (a.eval x) (a.eval y)).run P w=.ok (.bool (dB neg b)) w:=by
  have q:=sP (d:=9999) rx ry hv hs
  unfold fV at hv
  split at hv
  ·rename_i k n k' m h1 h2
   split at hv
   ·rename_i hk
    subst hk
    simp at hv;subst hv
    rw[h1]at rx;rw[h2]at ry
    rw[dD rx,dD ry]
    cases neg<;>simp only[binOp,ne_eq,not_true_eq_false,if_false,Op.intCmp,dB,if_true,Bool.false_eq_true]<;>simp[bne]<;>rfl
   ·simp at hv
  ·rename_i n m h1 h2
   rw[h1]at rx;rw[h2]at ry
   rw[fA rx,fA ry]at q ⊢
   cases neg<;>simp only[binOp,dB,if_true,Bool.false_eq_true,if_false,Sem.run_bind]<;>simp[Op.equal,Op.maxDepth,q]
  ·rename_i n m h1 h2
   simp at hv;subst hv
   rw[h1]at rx;rw[h2]at ry
   rw[fR rx,fR ry]
   cases neg<;>simp[binOp,Op.stringOp,dB,GW]
  ·simp at hv
 simp only[execOp,ho,Sem.run_bind,e0,e1,Result.andThen_ok,Sem.run_pure]
theorem TR {x y:Operand} {x' y':O} {t yt:TypeId} {neg:Bool} {ts:List TS} {fs:Array Field} {xs ys:List AV} {b:Bool} (E:cI P w D ι env a) (ho:o.op=.binOp (if neg then .neq else .eql) t x y yt) (sf:P.underlying t=some (.struct fs)) (dJ:P.stoodInHeld t=false) (MV:P.eqGuardType P.depth t=false)
  (yN:eT P 4 0 fs.toList=some ts) (hx:cO P x=some x') (hy:cO P y=some y') (h1:dm env x'=.agg xs) (h2:dm env y'=.agg ys)
  (hv:fj ts xs ys=some b):oU P a o w D ι (.bool (dB neg b)):=by
 obtain⟨vs,f,rx,n1,_,f1,r1⟩:=jh (h1▸dw E hx)
 obtain⟨us,f',ry,n2,_,f2,r2⟩:=jh (h2▸dw E hy)
 refine⟨.bool (dB neg b),?_,.eZ _ _ (.bool _)⟩
 obtain⟨l1,l2⟩:=sa hv
 have L:∀(xs:List AV) (vs:Array Value) (f:Nat->Value),vs.size=xs.length->(∀j,j<xs.length->vs[j]? =some (f j))->(∀j a,xs[j]? =some a->di P w D ι a (f j))->fF P w D ι xs vs:=fun xs vs f h1 h2 h3=>
  ⟨h1,fun j a ha=>⟨f j,h2 j (List.getElem?_eq_some_iff.1 ha).1,h3 j a ha⟩⟩
 have q:=sO (w:=w) 4 fs.toList 0 ts yN 9998 (by omega) xs ys vs us b (L _ _ _ n1 f1 r1) (L _ _ _ n2 f2 r2) (by simpa[List.take_of_length_le,l1,l2]using hv)
 have Oi:P.fieldsOf t=fs:=by simp[Program.fieldsOf,sf]
 have q2:(Op.equal t (.agg vs) (.agg us)).run P w=.ok b w:=by
  unfold Op.equal
  rw[show Op.maxDepth=9999+1 from rfl,run_equalIn_struct w 9999 t _ _ (by rw[Oi];exact sf) dJ,Oi,q]
 simp only[execOp,ho,Sem.run_bind,rx,ry,run_eqGuard_agg w _ _ _ _ _ _ MV,Result.andThen_ok]
 cases neg<;>simp[binOp,q2,dB]
theorem Q3 {x:Operand} {x':O} {t yt e:TypeId} {neg:Bool} {b:Bool} (E:cI P w D ι env a) (ho:o.op=.binOp (if neg then .neq else .eql) t x (.const (.slice none 0 0)) yt) (ht:P.underlying t=some (.slice e)) (hx:cO P x=some x')
  (hv:dd (dm env x')=some b):oU P a o w D ι (.bool (dB neg b)):=by
 have hr:=dw E hx
 have rx:∃A n c,a.eval x=.slice A n c/\b=A.isNone:=by
  unfold dd at hv
  split at hv<;>simp at hv<;>subst hv<;>rename_i hh
  ·rw[hh]at hr;exact⟨_,_,_,kD hr,rfl⟩
  ·rw[hh]at hr;obtain⟨o,cap,B,h,_⟩:=ji hr
   exact⟨_,_,_,h,rfl⟩
  ·rw[hh]at hr
   obtain⟨A,c,h',_,_,h⟩:=xP hr
   rcases h with h|⟨b,o,sz,vs,rfl,_⟩
   ·simp at h
   ·exact⟨_,_,_,h',rfl⟩
 refine⟨.bool (dB neg b),?_,.eZ _ _ (.bool _)⟩
 obtain⟨A,n,c,h,rfl⟩:=rx
 have hq:(Op.equal t (.slice A n c) (.slice none 0 0)).run P w=.ok A.isNone w:=by
  unfold Op.equal
  rw[show Op.maxDepth=9999+1 from rfl,Op.equalIn]
  simp only[Sem.run_bind,run_underlying ht,Result.andThen_ok]
  cases A<;>rfl
 have hc:a.eval (.const (.slice none 0 0))=.slice none 0 0:=rfl
 simp only[execOp,ho,h,hc]
 cases neg<;>simp only[Bool.false_eq_true,if_false,if_true,Bool.not_true,Bool.not_false,eqGuard,binOp,dB,Sem.run_bind,hq,Result.andThen_ok,Sem.run_pure]
theorem TU {x:Operand} {x':O} {t yt e:TypeId} {neg:Bool} {b:Bool} (E:cI P w D ι env a) (ho:o.op=.binOp (if neg then .neq else .eql) t x (.const (.pointer none)) yt) (ht:P.underlying t=some (.pointer e)) (hx:cO P x=some x')
  (hv:LS (dm env x')=some b):oU P a o w D ι (.bool (dB neg b)):=by
 have hr:=dw E hx
 have rx:∃A,a.eval x=.pointer A/\b=A.isNone:=by
  unfold LS at hv
  split at hv<;>simp at hv<;>subst hv<;>rename_i hh
  ·rw[hh]at hr;exact⟨_,Lh hr,rfl⟩
  ·rw[hh]at hr;obtain⟨B,h,_⟩:=iS hr
   exact⟨_,h,rfl⟩
  ·rw[hh]at hr;obtain⟨_,_,_,h,_⟩:=lD hr
   exact⟨_,h,rfl⟩
 refine⟨.bool (dB neg b),?_,.eZ _ _ (.bool _)⟩
 obtain⟨A,h,rfl⟩:=rx
 have hq:(Op.equal t (.pointer A) (.pointer none)).run P w=.ok A.isNone w:=by
  unfold Op.equal
  rw[show Op.maxDepth=9999+1 from rfl,Op.equalIn]
  simp only[Sem.run_bind,run_underlying ht,Result.andThen_ok]
  cases A<;>rfl
 have hc:a.eval (.const (.pointer none))=.pointer none:=rfl
 simp only[execOp,ho,h,hc]
 cases neg<;>simp only[Bool.false_eq_true,if_false,if_true,Bool.not_true,Bool.not_false,eqGuard,binOp,dB,Sem.run_bind,hq,Result.andThen_ok,Sem.run_pure]
theorem Q2 {x:Operand} {x':O} {t yt:TypeId} {p r:Array TypeId} {va:Bool} {neg:Bool} {b:Bool} (E:cI P w D ι env a) (ho:o.op=.binOp (if neg then .neq else .eql) t x (.const .nilFunc) yt) (ht:P.underlying t=some (.func p r va)) (hx:cO P x=some x')
  (hv:dc (dm env x')=some b):oU P a o w D ι (.bool (dB neg b)):=by
 have hr:=dw E hx
 have rx:a.eval x=.nilFunc/\b=true∨∃f c,a.eval x=.func f #[] c/\b=false:=by
  unfold dc at hv
  split at hv<;>simp at hv<;>subst hv<;>rename_i hh
  ·rw[hh]at hr;exact .inl ⟨xO hr,rfl⟩
  ·rw[hh]at hr;obtain⟨vs,g,h,_⟩:=A6 hr
   exact .inr ⟨_,_,h,rfl⟩
 refine⟨.bool (dB neg b),?_,.eZ _ _ (.bool _)⟩
 have hc:a.eval (.const .nilFunc)=.nilFunc:=rfl
 rcases rx with⟨h,rfl⟩|⟨f,c,h,rfl⟩
 ·have hq:(Op.equal t .nilFunc .nilFunc).run P w=.ok true w:=by
   unfold Op.equal
   rw[show Op.maxDepth=9999+1 from rfl,Op.equalIn]
   simp only[Sem.run_bind,run_underlying ht,Result.andThen_ok]
   rfl
  simp only[execOp,ho,h,hc]
  cases neg<;>simp only[Bool.false_eq_true,if_false,if_true,Bool.not_true,Bool.not_false,eqGuard,binOp,dB,Sem.run_bind,hq,Result.andThen_ok,Sem.run_pure]
 ·have hq:(Op.equal t (.func f #[] c) .nilFunc).run P w=.ok false w:=by
   unfold Op.equal
   rw[show Op.maxDepth=9999+1 from rfl,Op.equalIn]
   simp only[Sem.run_bind,run_underlying ht,Result.andThen_ok]
   rfl
  simp only[execOp,ho,h,hc]
  cases neg<;>simp only[Bool.false_eq_true,if_false,if_true,Bool.not_true,Bool.not_false,eqGuard,binOp,dB,Sem.run_bind,hq,Result.andThen_ok,Sem.run_pure]
theorem TZ {x:Operand} {x':O} {t:TypeId} (E:cI P w D ι env a) (ho:o.op=.unOp .not t x) (hx:cO P x=some x') (hv:eh (dm env x')=some v):oU P a o w D ι v:=by
 have hr:=dw E hx
 unfold eh at hv
 split at hv
 ·rename_i b hb
  simp at hv;subst hv
  rw[hb]at hr
  exact⟨_,by simp only[execOp,ho,fA hr];rfl,.eZ _ _ (.bool _)⟩
 ·simp at hv
theorem TY {x:Operand} {x':O} {t:TypeId} (E:cI P w D ι env a) (ho:o.op=.unOp .neg t x) (hx:cO P x=some x') (hv:ee (dm env x')=some v):oU P a o w D ι v:=by
 have hr:=dw E hx
 unfold ee at hv
 split at hv
 ·rename_i k n hb
  simp at hv;subst hv
  rw[hb]at hr
  refine⟨_,by simp only[execOp,ho,dD hr];rfl,?_⟩
  rw[Int.zero_sub];exact .eZ _ _ (.int _ _)
 ·simp at hv
theorem Q1 {x:Operand} {x':O} {s d:TypeId} {k q:IntKind} (E:cI P w D ι env a) (ho:o.op=.convert s d x) (hs:P.underlying s=some (.int q)) (hd:P.underlying d=some (.int k)) (hx:cO P x=some x') (hv:cU k (dm env x')=some v):oU P a o w D ι v:=by
 have hr:=dw E hx
 unfold cU at hv
 split at hv
 ·rename_i k' n hb
  simp at hv;subst hv
  rw[hb]at hr
  refine⟨.int k (k.wrap n),?_,.eZ _ _ (.int _ _)⟩
  simp only[execOp,ho,dD hr,convert,Sem.run_bind,run_underlying hs,run_underlying hd,Result.andThen_ok,Conv.intToInt,Sem.run_pure]
 ·simp at hv
theorem N1 {x:Operand} {x':O} {s:TypeId} {i:Nat} {fs:Array Field} {f:Field} {m:Nat} (E:cI P w D ι env a) (ho:o.op=.fieldAddr s x i) (hs:P.underlying s=some (.struct fs)) (hf:fs[i]? =some f) (hm:eE P f.type=some (m+1)) (hx:cO P x=some x')
  (hv:F0 f.offset (dm env x')=some v):oU P a o w D ι v:=by
 have hr:=dw E hx
 have go:∀b oo,a.eval x=.pointer (some ⟨b,oo,none⟩)->(execOp a.eval o).run P w=.ok (.value (.pointer (some ⟨b,oo+f.offset,none⟩))) w:=fun b oo h=>by
  simp only[execOp,ho,h,Instr.fieldAt,Sem.run_bind,run_underlying hs,Result.andThen_ok,hf,Instr.sureAddr,Sem.run_pure,fieldPlace,run_sizeOf hm,Nat.add_eq_zero_iff,Nat.one_ne_zero,and_false,if_false,Addr.add]
  split
  ·rename_i h0;simp[h0]
  ·rfl
 unfold F0 at hv
 split at hv
 ·rename_i kf i' oo hb
  simp at hv;subst hv
  rw[hb]at hr
  obtain⟨B,h,hB,hk⟩:=iS hr
  refine⟨_,go _ _ h,?_⟩
  rw[Nat.add_assoc]
  exact .ptr _ _ _ _ hB hk
 ·rename_i cs hb
  simp at hv;subst hv
  rw[hb]at hr
  obtain⟨b,oo,vs,h,h1,h2,h3,h4⟩:=lD hr
  refine⟨_,go _ _ h,.eZ _ _ (.du _ _ _ (fun j=>vs (f.offset+j)) h1 (fun a ha=>h2 a (List.mem_of_mem_drop ha)) (fun j hj=>?_) (fun j a ha=>h4 _ _ (by simpa using ha)))⟩
  rw[Nat.add_assoc]
  exact h3 _ (by simp at hj;omega)
 ·simp at hv
theorem N2 {x:Operand} {x':O} {s:TypeId} {i n:Nat} {ag:Bool} {fs:Array Field} {f:Field} (E:cI P w D ι env a) (ho:o.op=.field s x i) (hs:P.underlying s=some (.struct fs)) (hf:fs[i]? =some f) (vP:oF P f.type=some ag) (hm:eE P f.type=some n) (hx:cO P x=some x')
  (hv:bV ag f.offset n (dm env x')=some v):oU P a o w D ι v:=by
 have hr:=dw E hx
 unfold bV at hv
 split at hv
 ·rename_i cs hb
  split at hv
  ·rename_i hl
   rw[hb]at hr
   obtain⟨vs,g,h,n1,fl,f1,r1⟩:=jh hr
   unfold part at hv
   cases ag with
   |true=>
    simp only[if_true]at hv
    split at hv
    ·simp at hv;subst hv
     refine⟨.agg (vs.extract f.offset (f.offset+n)),?_,.agg _ _ (fun j=>g (f.offset+j)) (by simp[n1];omega) (fun a ha=>fl a (List.mem_of_mem_drop (List.mem_of_mem_take ha))) (fun j hj=>?_) (fun j a ha=>?_)⟩
     ·simp only[execOp,ho,h,Instr.field,Sem.run_bind,run_underlying hs,Result.andThen_ok,hf,asAgg,Sem.run_pure,qf vP hm]
     ·simp at hj
      rw[Array.getElem?_extract,if_pos (by omega)];exact f1 _ (by omega)
     ·rw[List.getElem?_take]at ha
      split at ha
      ·exact r1 _ _ (by simpa using ha)
      ·simp at ha
    ·simp at hv
   |false=>
    simp only[Bool.false_eq_true,if_false]at hv
    have oI:cs[f.offset]? =some v:=by simpa[List.head?_drop]using hv
    have ew:=(List.getElem?_eq_some_iff.1 oI).1
    exact⟨g f.offset,by simp only[execOp,ho,h,Instr.field,Sem.run_bind,run_underlying hs,Result.andThen_ok,hf,asAgg,Sem.run_pure,ni vP (f1 _ ew)],r1 _ _ oI⟩
  ·simp at hv
 ·simp at hv
theorem T5 {left:Bool} {x y:Operand} {x' y':O} {t yt:TypeId} (E:cI P w D ι env a) (ho:o.op=.binOp (if left then .shl else .shr) t x y yt) (hx:cO P x=some x') (hy:cO P y=some y') (hv:gZ left (dm env x') (dm env y')=some v):oU P a o w D ι v:=by
 unfold gZ at hv
 split at hv
 ·rename_i k n k' m hb tE
  split at hv
  ·simp at hv
  ·rename_i hm
   simp at hv;subst hv
   have h1:=dD (hb▸dw E hx)
   have h2:=dD (tE▸dw E hy)
   refine⟨_,?_,.eZ _ _ (.int _ _)⟩
   simp only[execOp,ho,h1,h2]
   cases left<;>simp only[Bool.false_eq_true,if_false,if_true,eqGuard,Bool.not_true,Bool.not_false,binOp,Op.shift,hm,Sem.run_bind,Sem.run_pure,Result.andThen_ok]<;>rfl
 ·simp at hv
end
end Go.Proofs.YtgoelphibofcmaaGreat.V

namespace Go.Proofs.YtgoelphibofcmaaGreat.V
open Go.RowKit
variable {P:Program} {w w':World} {D D':Nat->Prop} {ι ι':Names}
theorem kG (b o j:Nat):(⟨b,o,none⟩:Addr).add j=⟨b,o+j,none⟩:=by unfold Addr.add;split<;>simp_all
section
variable {g:Rows} {hs:Nat} {env:Env} {a:Act} {o:Oper} {id:Id} {v:AV}
theorem kW {t:TypeId} {ag:Bool} {n b oo:Nat} {cs:List AV} {v:AV} {f:Nat->Value} (vP:oF P t=some ag) (hn:eE P t=some n) (hp:part ag n cs=some v) (fl:∀a∈cs,a.cell=true)
  (hc:∀j,j<cs.length->w.cell? ⟨b,oo+j,none⟩=some (f j)) (hr:∀j a,cs[j]? =some a->di P w D ι a (f j)):∃u,(loadVar t ⟨b,oo,none⟩).run P w=.ok u w/\di P w D ι v u:=by
 unfold part at hp
 cases ag with
 |true=>
  simp only[if_true]at hp
  split at hp
  ·rename_i hl
   simp at hp;subst hp
   refine⟨.agg ((List.range n).map f).toArray,?_,.agg _ _ f (by simp;omega) (fun a ha=>fl a (List.mem_of_mem_take ha)) (fun j hj=>?_) (fun j a ha=>?_)⟩
   ·simp only[loadVar,Sem.run_bind,tW vP,Result.andThen_ok,if_true,run_sizeOf hn,Sem.run_pure]
    rw[run_loadCells w _ n f (fun j hj=>by rw[kG];exact hc j (by omega))]
    rfl
   ·simp at hj
    have:j<n:=by omega
    simp[this]
   ·rw[List.getElem?_take]at ha
    split at ha
    ·exact hr _ _ ha
    ·simp at ha
  ·simp at hp
 |false=>
  simp only[Bool.false_eq_true,if_false]at hp
  cases cs with
  |nil=>simp at hp
  |cons c r=>
   simp at hp;subst hp
   refine⟨f 0,?_,hr 0 _ rfl⟩
   simp only[loadVar,Sem.run_bind,tW vP,Result.andThen_ok,Bool.false_eq_true,if_false]
   have:=hc 0 (by simp)
   simp at this
   rw[run_load,this]
theorem Ls {S:gJ P hs D ι g w} {i:Nat} {cs:List AV} (h:rowAt g id i=some cs) (hk:∀B,ι id=some B->B.k=none):∃B r,g id=some r/\ι id=some B/\lT P w D ι B r/\r.rows[i]? =some cs/\(∀a∈cs,a.cell=true)/\∃f:Nat->Value,∀j,j<cs.length->w.cell? ⟨B.b,i*B.sz+j,none⟩=some (f j)/\∀a,cs[j]? =some a->di P w D ι a (f j):=by
 unfold rowAt at h
 simp only[Option.bind_eq_some_iff]at h
 obtain⟨r,hr,hi⟩:=h
 obtain⟨B,hB,R,_,_⟩:=S.row id r hr
 replace R:=R.row (hk B hB)
 refine⟨B,r,hr,hB,R,hi,R.flat cs (List.mem_of_getElem? hi),fun j=>(w.cell? ⟨B.b,i*B.sz+j,none⟩).getD undef,fun j hj=>?_⟩
 obtain⟨u,hu,yL⟩:=R.at_ i j cs _ hi (List.getElem?_eq_getElem hj)
 rw[R.sz,hu]
 refine⟨by simp only[hu,Option.getD_some],fun a ha=>?_⟩
 rw[List.getElem?_eq_getElem hj]at ha
 injection ha with ha
 subst ha
 simpa only[hu,Option.getD_some]using yL
theorem Q9 {x:Operand} {x':O} {t:TypeId} {ag:Bool} {n:Nat} (S:gJ P hs D ι g w) (E:cI P w D ι env a) (ho:o.op=.load t x) (vP:oF P t=some ag) (hn:eE P t=some n) (hx:cO P x=some x') (hv:ld g ag n (dm env x')=some v):oU P a o w D ι v:=by
 have hr:=dw E hx
 have go:∀b oo u,a.eval x=.pointer (some ⟨b,oo,none⟩)->(loadVar t ⟨b,oo,none⟩).run P w=.ok u w->(execOp a.eval o).run P w=.ok (.value u) w:=fun b oo u h h2=>by
  simp only[execOp,ho,h,Instr.loadAt,Instr.sureAddr,Sem.run_bind,Sem.run_pure,Result.andThen_ok,h2]
 unfold ld at hv
 split at hv
 ·rename_i kf i' oo hb
  rw[hb]at hr
  obtain⟨B,h,hB,hk⟩:=iS hr
  simp only[Option.bind_eq_some_iff]at hv
  obtain⟨cs,dC,hp⟩:=hv
  obtain⟨B',r,IW,dM,R,hi,fl,f,hf⟩:=Ls (S:=S) dC (fun B2 h2=>by rw[hB]at h2;injection h2 with h2;subst h2;exact hk)
  rw[hB]at dM;injection dM with dM;subst dM
  obtain⟨u,h1,h2⟩:=kW (w:=w) (b:=B.b) (oo:=i'*B.sz+oo) (f:=fun j=>f (oo+j)) vP hn hp (fun a ha=>fl a (List.mem_of_mem_drop ha)) (fun j hj=>by
   rw[Nat.add_assoc];exact(hf _ (by simp at hj;omega)).1) (fun j a ha=>by
   simp at ha;exact(hf _ ((List.getElem?_eq_some_iff.1 ha).1)).2 _ ha)
  exact⟨u,go _ _ _ h h1,h2⟩
 ·rename_i cs hb
  rw[hb]at hr
  obtain⟨b,oo,vs,h,h1,h2,h3,h4⟩:=lD hr
  obtain⟨u,k1,k2⟩:=kW (w:=w) (b:=b) (oo:=oo) (f:=vs) vP hn hv h2 h3 (fun j a ha=>.eZ _ _ (h4 j a ha))
  exact⟨u,go _ _ _ h k1,k2⟩
 ·simp at hv
theorem TQ {x:Operand} {x':O} (E:cI P w D ι env a) (ho:o.op=.nilCheck x) (hx:cO P x=some x') (hv:eb (dm env x')=some v):oU P a o w D ι v:=by
 have hr:=dw E hx
 unfold eb at hv
 split at hv
 ·rename_i kf i' oo hb
  simp at hv;subst hv
  rw[hb]at hr
  obtain⟨B,h,hB,hk⟩:=iS hr
  exact⟨_,by simp only[execOp,ho,h];rfl,.ptr _ _ _ _ hB hk⟩
 ·rename_i cs hb
  simp at hv;subst hv
  rw[hb]at hr
  obtain⟨b,oo,vs,h,_⟩:=lD hr
  exact⟨_,by simp only[execOp,ho,h];rfl,h▸hr⟩
 ·simp at hv
theorem N3 {x i:Operand} {x' i':O} {t e:TypeId} {m:Nat} (S:gJ P hs D ι g w) (E:cI P w D ι env a) (ho:o.op=.indexAddr t x i) (ht:P.underlying t=some (.slice e)) (hm:eE P e=some (m+1)) (hx:cO P x=some x') (hi:cO P i=some i')
  (hv:bW g (m+1) (dm env x') (dm env i')=some v):oU P a o w D ι v:=by
 have hr:=dw E hx
 have EZ:=dw E hi
 have go:∀b oo n c k (q:Int),a.eval x=.slice (some ⟨b,oo,none⟩) n c->a.eval i=.int k q->0<=q->q<n->(execOp a.eval o).run P w=.ok (.value (.pointer (some ⟨b,oo+q.toNat*(m+1),none⟩))) w:=fun b oo n c k q h h2 h3 h4=>by
  simp only[execOp,ho,h,h2,Instr.indexAt,asIntOf,Sem.run_bind,Sem.run_pure,run_underlying ht,Result.andThen_ok,h3,h4,and_self,if_true,run_sizeOf hm,kG]
 unfold bW at hv
 split at hv
 ·rename_i rows k q hb tE
  split at hv
  ·rename_i hq
   simp only[Option.bind_eq_some_iff]at hv
   obtain⟨cs,dC,hv⟩:=hv
   split at hv
   ·rename_i hlen
    simp at hv;subst hv
    rw[hb]at hr;rw[tE]at EZ
    have ew:=(List.getElem?_eq_some_iff.1 dC).1
    obtain⟨A,c,h,h1,h2,h3⟩:=xP hr
    rcases h3 with h3|⟨b,oo,sz,vs,rfl,hD,hl,fl,hc,hi⟩
    ·subst h3;simp at dC
    have fH:sz=m+1:=by rw[<-hlen,hl cs (List.mem_of_getElem? dC)]
    refine⟨_,go b oo _ _ k q h (dD EZ) hq (by omega),.eZ _ _ (.du cs b _ (vs q.toNat) hD (fl cs (List.mem_of_getElem? dC)) (fun j hj=>?_) (fun j a ha=>hi _ _ _ _ dC ha))⟩
    have:=hc q.toNat j ew (by rw[<-hl cs (List.mem_of_getElem? dC)];exact hj)
    rw[fH]at this
    rw[Nat.add_assoc];exact this
   ·simp at hv
  ·simp at hv
 ·rename_i kf off len k q hb tE
  split at hv
  ·rename_i hq
   simp only[Option.bind_eq_some_iff]at hv
   obtain⟨r,IW,hv⟩:=hv
   split at hv
   ·rename_i zm
    simp at hv;subst hv
    rw[hb]at hr;rw[tE]at EZ
    obtain⟨oo,cap,B,h,hB,h1,h2,h3,h4,hk⟩:=ji hr
    obtain⟨B',dM,R,_,_⟩:=S.row _ _ IW
    rw[hB]at dM;injection dM with dM;subst dM
    replace R:=R.row hk
    have fH:B.sz=m+1:=R.sz.trans zm
    refine⟨_,go _ _ _ _ k q h (dD EZ) hq.1 hq.2,?_⟩
    have DQ:oo=off*B.sz:=by rcases h2 with h2|h2<;>omega
    have:oo+q.toNat*(m+1)=(off+q.toNat)*B.sz+0:=by rw[DQ,<-fH,Nat.add_mul];rfl
    rw[this]
    exact .ptr _ _ _ _ hB hk
   ·simp at hv
  ·simp at hv
 ·simp at hv
theorem Q4 {x i:Operand} {x' i':O} {t e:TypeId} {m len:Nat} (E:cI P w D ι env a) (ho:o.op=.indexAddr t x i) (ht:P.underlying t=some (.array len e)) (hm:eE P e=some (m+1)) (hx:cO P x=some x') (hi:cO P i=some i')
  (hv:cV len (m+1) (dm env x') (dm env i')=some v):oU P a o w D ι v:=by
 have hr:=dw E hx
 have EZ:=dw E hi
 have go:∀b oo k (q:Int),a.eval x=.pointer (some ⟨b,oo,none⟩)->a.eval i=.int k q->0<=q->q<len->(execOp a.eval o).run P w=.ok (.value (.pointer (some ⟨b,oo+q.toNat*(m+1),none⟩))) w:=fun b oo k q h h2 h3 h4=>by
  simp only[execOp,ho,h,h2,Instr.indexAt,asIntOf,Sem.run_bind,Sem.run_pure,run_underlying ht,Instr.sureAddr,Result.andThen_ok,h3,h4,and_self,if_true,run_sizeOf hm,kG]
 unfold cV at hv
 split at hv
 ·rename_i kf r oo k q hb tE
  split at hv
  ·rename_i hq
   simp at hv;subst hv
   rw[hb]at hr;rw[tE]at EZ
   obtain⟨B,h,hB,hk⟩:=iS hr
   refine⟨_,go _ _ k q h (dD EZ) hq.1 hq.2,?_⟩
   rw[Nat.add_assoc]
   exact .ptr _ _ _ _ hB hk
  ·simp at hv
 ·rename_i cs k q hb tE
  split at hv
  ·rename_i hq
   simp at hv;subst hv
   rw[hb]at hr;rw[tE]at EZ
   obtain⟨b,oo,vs,h,h1,h2,h3,h4⟩:=lD hr
   refine⟨_,go _ _ k q h (dD EZ) hq.1 hq.2,.eZ _ _ (.du _ _ _ (fun j=>vs (q.toNat*(m+1)+j)) h1 (fun a ha=>h2 a (List.mem_of_mem_drop ha)) (fun j hj=>?_) (fun j a ha=>h4 _ _ (by simpa using ha)))⟩
   rw[Nat.add_assoc]
   exact h3 _ (by simp at hj;omega)
  ·simp at hv
 ·simp at hv
theorem Q6 {x i:Operand} {x' i':O} {t:TypeId} (E:cI P w D ι env a) (ho:o.op=.index t x i) (ht:P.underlying t=some .string) (hx:cO P x=some x') (hi:cO P i=some i')
  (hv:cY (dm env x') (dm env i')=some v):oU P a o w D ι v:=by
 have hr:=dw E hx
 have EZ:=dw E hi
 unfold cY at hv
 split at hv
 ·rename_i s k q hb tE
  split at hv
  ·rename_i hq
   simp only[Option.map_eq_some_iff]at hv
   obtain⟨c,hc,rfl⟩:=hv
   rw[hb]at hr;rw[tE]at EZ
   refine⟨_,?_,.eZ _ _ (.int _ _)⟩
   simp only[execOp,ho,fR hr,dD EZ,Instr.index,asIntOf,Sem.run_bind,Sem.run_pure,run_underlying ht,Result.andThen_ok,hq,if_true,hc]
  ·simp at hv
 ·simp at hv
theorem Q5 {x i:Operand} {x' i':O} {t e:TypeId} {ag:Bool} {len n:Nat} (E:cI P w D ι env a) (ho:o.op=.index t x i) (ht:P.underlying t=some (.array len e)) (vP:oF P e=some ag) (hn:eE P e=some n) (hx:cO P x=some x') (hi:cO P i=some i')
  (hv:cW ag len n (dm env x') (dm env i')=some v):oU P a o w D ι v:=by
 have hr:=dw E hx
 have EZ:=dw E hi
 unfold cW at hv
 split at hv
 ·rename_i cs k q hb tE
  split at hv
  ·rename_i hq
   rw[hb]at hr;rw[tE]at EZ
   obtain⟨vs,f,h,n1,fl,f1,r1⟩:=jh hr
   have go:∀u,(Go.part e vs (q.toNat*n)).run P w=.ok u w->(execOp a.eval o).run P w=.ok (.value u) w:=fun u hu=>by
    simp only[execOp,ho,h,dD EZ,Instr.index,asIntOf,Sem.run_bind,Sem.run_pure,run_underlying ht,Result.andThen_ok,hq,and_self,if_true,run_sizeOf hn,hu]
   unfold part at hv
   cases ag with
   |true=>
    simp only[if_true]at hv
    split at hv
    ·rename_i hl
     simp at hv;subst hv
     simp only[List.length_drop]at hl
     by_cases IY:n=0
     ·subst IY
      refine⟨_,go _ (qf vP hn),.agg _ _ (fun _=>undef) (by simp) (fun a ha=>by simp at ha) (fun j hj=>by simp at hj) (fun j a ha=>by simp at ha)⟩
     refine⟨_,go _ (qf vP hn),.agg _ _ (fun j=>f (q.toNat*n+j)) (by simp[n1];omega) (fun a ha=>fl a (List.mem_of_mem_drop (List.mem_of_mem_take ha))) (fun j hj=>?_) (fun j a ha=>?_)⟩
     ·simp at hj
      rw[Array.getElem?_extract,if_pos (by omega)];exact f1 _ (by omega)
     ·rw[List.getElem?_take]at ha
      split at ha
      ·exact r1 _ _ (by simpa using ha)
      ·simp at ha
    ·simp at hv
   |false=>
    simp only[Bool.false_eq_true,if_false]at hv
    have oI:cs[q.toNat*n]? =some v:=by simpa[List.head?_drop]using hv
    have ew:=(List.getElem?_eq_some_iff.1 oI).1
    exact⟨_,go _ (ni vP (f1 _ ew)),r1 _ _ oI⟩
  ·simp at hv
 ·simp at hv
theorem IS {x:Operand} {x':O} {i:Nat} (E:cI P w D ι env a) (ho:o.op=.extract x i) (hx:cO P x=some x') (hv:aU i (dm env x')=some v):oU P a o w D ι v:=by
 have hr:=dw E hx
 unfold aU at hv
 split at hv
 ·rename_i vs hb
  rw[hb]at hr
  obtain⟨us,f,h,h1,h2,h3⟩:=v8 hr
  have ew:=(List.getElem?_eq_some_iff.1 hv).1
  exact⟨_,by simp only[execOp,ho,h,Instr.extract,h2 _ ew];rfl,h3 _ _ hv⟩
 ·simp at hv
theorem TW {x:Operand} {x':O} {t:TypeId} {e:TypeId} {n:Nat} (E:cI P w D ι env a) (ho:o.op=.call {callee:=.builtin .len,args:= #[x],argTypes:= #[t]}) (ht:P.underlying t=some (.slice e)) (hx:cO P x=some x') (hv:ec (dm env x')=some n):oU P a o w D ι (.int .i64 n):=by
 have hr:=dw E hx
 have go:∀A c,a.eval x=.slice A n c->(execOp a.eval o).run P w=.ok (.value (.int .i64 n)) w:=fun A c h=>by
  simp only[execOp,ho,resolve,Sem.run_bind,Sem.run_pure,Result.andThen_ok,invoke,builtin,Array.map,h]
  simp[Builtin.len_,run_underlying ht,goInt,h]
 refine⟨.int .i64 n,?_,.eZ _ _ (.int _ _)⟩
 unfold ec at hv
 split at hv<;>simp at hv<;>subst hv<;>rename_i hb<;>rw[hb]at hr
 ·exact go _ _ (kD hr)
 ·obtain⟨A,c,h,_⟩:=xP hr;exact go _ _ h
 ·obtain⟨oo,cap,B,h,_⟩:=ji hr;exact go _ _ h
theorem Q8 {x:Operand} {x':O} {t:TypeId} (E:cI P w D ι env a) (ho:o.op=.call {callee:=.builtin .len,args:= #[x],argTypes:= #[t]}) (ht:P.underlying t=some .string) (hx:cO P x=some x') (hv:da (dm env x')=some v):oU P a o w D ι v:=by
 have hr:=dw E hx
 unfold da at hv
 split at hv
 ·rename_i s hb
  simp at hv;subst hv
  rw[hb]at hr
  have h:=fR hr
  refine⟨_,?_,.eZ _ _ (.int _ _)⟩
  simp only[execOp,ho,resolve,Sem.run_bind,Sem.run_pure,Result.andThen_ok,invoke,builtin,Array.map,h]
  simp[Builtin.len_,run_underlying ht,goInt,h]
 ·simp at hv
theorem nQ {isS:Bool} {len cap h l:Nat} {lo hi:Option Operand} {OH rS:Option O} (E:cI P w D ι env a) (kI:r4 P lo=some OH) (DT:r4 P hi=some rS) (hh:dS len (rS.map (dm env))=some h) (hl:dU h (OH.map (dm env))=some l) (hc:len<=cap):
  (Instr.sliceBounds isS len cap (lo.map a.eval) (hi.map a.eval) none).run P w=.ok (l,h,cap) w/\l<=h/\h<=len:=by
 have bound:∀(x:Operand) (y:O) (k:IntKind) (n:Int) (m:Nat) (c:BoundsCode),cO P x=some y->dm env y=.int k n->0<=n->n<=m->(Instr.sliceBound (a.eval x) m c).run P w=.ok n.toNat w:=fun x y k n m c hx hy h0 h1=>by
  have hr:=dw E hx
  rw[hy]at hr
  simp only[Instr.sliceBound,dD hr,asIntOf,Sem.run_bind,Sem.run_pure,Result.andThen_ok,h0,h1,and_self,if_true]
 have H:h<=len/\((hi=none/\h=len)∨∃x,hi=some x/\∀c,(Instr.sliceBound (a.eval x) cap c).run P w=.ok h w):=by
  cases hi with
  |none=>
   simp[r4]at DT;subst DT
   simp[dS]at hh;subst hh
   exact⟨Nat.le_refl _,.inl ⟨rfl,rfl⟩⟩
  |some x=>
   simp only[r4,Option.map_eq_some_iff]at DT
   obtain⟨y,hy,rfl⟩:=DT
   simp only[Option.map_some,dS]at hh
   split at hh
   ·rename_i e;cases e
   ·rename_i k n e
    injection e with e
    split at hh
    ·rename_i hn
     simp at hh;subst hh
     exact⟨by omega,.inr ⟨x,rfl,fun c=>bound x y k n _ _ hy e hn.1 (by omega)⟩⟩
    ·simp at hh
   ·simp at hh
 have L:l<=h/\((lo=none/\l=0)∨∃x,lo=some x/\∀c,(Instr.sliceBound (a.eval x) h c).run P w=.ok l w):=by
  cases lo with
  |none=>
   simp[r4]at kI;subst kI
   simp[dU]at hl;subst hl
   exact⟨Nat.zero_le _,.inl ⟨rfl,rfl⟩⟩
  |some x=>
   simp only[r4,Option.map_eq_some_iff]at kI
   obtain⟨y,hy,rfl⟩:=kI
   simp only[Option.map_some,dU]at hl
   split at hl
   ·rename_i e;cases e
   ·rename_i k n e
    injection e with e
    split at hl
    ·rename_i hn
     simp at hl;subst hl
     exact⟨by omega,.inr ⟨x,rfl,fun c=>bound x y k n h _ hy e hn.1 hn.2⟩⟩
    ·simp at hl
   ·simp at hl
 refine⟨?_,L.1,H.1⟩
 unfold Instr.sliceBounds
 rcases H.2 with⟨rfl,rfl⟩|⟨x,rfl,hx⟩<;>rcases L.2 with⟨rfl,rfl⟩|⟨y,rfl,hy⟩<;>
  simp only[Option.map_none,Option.map_some,Sem.run_bind,Sem.run_pure,Result.andThen_ok, *]
theorem N4 {x:Operand} {x':O} {lo hi:Option Operand} {OH rS:Option O} {t e:TypeId} {m:Nat} (S:gJ P hs D ι g w) (E:cI P w D ι env a) (ho:o.op=.slice t x lo hi none) (ht:P.underlying t=some (.slice e)) (hm:eE P e=some m) (hx:cO P x=some x') (kI:r4 P lo=some OH) (DT:r4 P hi=some rS)
  (hv:b4 g m (dm env x') (OH.map (dm env)) (rS.map (dm env))=some v):oU P a o w D ι v:=by
 have hr:=dw E hx
 have go:∀A len cap l h,a.eval x=.slice A len cap->(Instr.sliceBounds true len cap (lo.map a.eval) (hi.map a.eval) none).run P w=.ok (l,h,cap) w->(execOp a.eval o).run P w=.ok (.value (.slice (if cap=l then A else A.map (·.add (l*m))) (h-l) (cap-l))) w:=fun A len cap l h h1 h2=>by
  simp only[execOp,ho,h1,Instr.sliceAt,Instr.slice,Sem.run_bind,Sem.run_pure,run_underlying ht,Result.andThen_ok,Option.map_none,h2,run_sizeOf hm]
 unfold b4 at hv
 split at hv
 ·rename_i hb
  rw[hb]at hr
  simp only[Option.bind_eq_some_iff,Option.map_eq_some_iff]at hv
  obtain⟨h,hh,l,hl,rfl⟩:=hv
  obtain⟨q,q1,q2⟩:=nQ (w:=w) (isS:=true) (cap:=0) E kI DT hh hl (Nat.le_refl _)
  have h0:h=0:=by omega
  have l0:l=0:=by omega
  subst h0;subst l0
  refine⟨_,go _ _ _ _ _ (kD hr) q,?_⟩
  simp;exact .eZ _ _ .bD
 ·rename_i rows hb
  rw[hb]at hr
  simp only[Option.bind_eq_some_iff,Option.map_eq_some_iff]at hv
  obtain⟨h,hh,l,hl,hv⟩:=hv
  split at hv
  ·rename_i dx
   simp at hv;subst hv
   obtain⟨A,c,he,c1,c2,h3⟩:=xP hr
   obtain⟨q,q1,q2⟩:=nQ (w:=w) (isS:=true) (cap:=c) E kI DT hh hl c1
   refine⟨_,go _ _ _ _ _ he q,.eZ _ _ ?_⟩
   have hlen:((rows.drop l).take (h-l)).length=h-l:=by simp;omega
   by_cases hz:h-l=0
   ·have:(rows.drop l).take (h-l)=[]:=by rw[hz];simp
    rw[this,hz]
    exact .BM _ _ (by omega)
   ·rcases h3 with h3|⟨b,oo,sz,vs,rfl,hD,Mf,fl,hc,hi⟩
    ·subst h3;simp at q2;omega
    rw[if_neg (by omega)]
    simp only[Option.map_some,kG]
    have CB:sz=m:=by
     have ew:l<rows.length:=by omega
     have:=dx rows[l] (List.getElem_mem ew)
     rw[<-this,Mf _ (List.getElem_mem ew)]
    subst CB
    refine .sl _ b _ _ _ sz (fun i j=>vs (l+i) j) hlen (by omega) (by omega) hD (fun cs dC=>Mf cs (List.mem_of_mem_drop (List.mem_of_mem_take dC))) (fun cs dC=>fl cs (List.mem_of_mem_drop (List.mem_of_mem_take dC))) (fun i j hi hj=>?_) (fun i j cs a dC ha=>?_)
    ·rw[<-hc (l+i) j (by omega) hj,Nat.add_mul]
     congr 2;omega
    ·rw[List.getElem?_take]at dC
     split at dC
     ·exact hi _ _ _ _ (by simpa using dC) ha
     ·simp at dC
  ·simp at hv
 ·rename_i kf off len hb
  rw[hb]at hr
  simp only[Option.bind_eq_some_iff,Option.map_eq_some_iff]at hv
  obtain⟨r,IW,h,hh,l,hl,hv⟩:=hv
  split at hv
  ·rename_i zm
   simp at hv;subst hv
   obtain⟨oo,cap,B,he,hB,h1,h2,h3,h4,hk⟩:=ji hr
   obtain⟨B',dM,R,_,_⟩:=S.row _ _ IW
   rw[hB]at dM;injection dM with dM;subst dM
   replace R:=R.row hk
   have fH:B.sz=m:=R.sz.trans zm
   obtain⟨q,q1,q2⟩:=nQ (w:=w) (isS:=true) (cap:=cap) E kI DT hh hl h1
   refine⟨_,go _ _ _ _ _ he q,?_⟩
   have e1:(off+l+(cap-l))*B.sz<=B.C:=by rw[show off+l+(cap-l)=off+cap by omega];exact h3
   by_cases nG:cap=l
   ·rw[if_pos nG]
    exact .own _ _ _ _ _ B hB hk (by omega) (.inl (by omega)) e1 (by omega)
   ·rw[if_neg nG]
    simp only[Option.map_some,kG]
    have DQ:oo=off*B.sz:=by rcases h2 with h2|h2<;>omega
    exact .own _ _ _ _ _ B hB hk (by omega) (.inr (by rw[DQ,fH,Nat.add_mul])) e1 (by omega)
  ·simp at hv
 ·simp at hv
theorem L1 {x:Operand} {x':O} {lo hi:Option Operand} {OH rS:Option O} {t:TypeId} (E:cI P w D ι env a) (ho:o.op=.slice t x lo hi none) (ht:P.underlying t=some .string) (hx:cO P x=some x') (kI:r4 P lo=some OH) (DT:r4 P hi=some rS)
  (hv:bj (dm env x') (OH.map (dm env)) (rS.map (dm env))=some v):oU P a o w D ι v:=by
 have hr:=dw E hx
 unfold bj at hv
 split at hv
 ·rename_i s hb
  rw[hb]at hr
  simp only[Option.bind_eq_some_iff,Option.map_eq_some_iff]at hv
  obtain⟨h,hh,l,hl,rfl⟩:=hv
  obtain⟨q,_,_⟩:=nQ (w:=w) (isS:=false) E kI DT hh hl (Nat.le_refl _)
  refine⟨_,?_,.eZ _ _ (.str _)⟩
  simp only[execOp,ho,fR hr,Instr.sliceAt,Instr.slice,Sem.run_bind,Sem.run_pure,run_underlying ht,Result.andThen_ok,Option.map_none,Option.isSome_none,Bool.false_eq_true,if_false,q]
 ·simp at hv
theorem Fy {xs:List Operand} {ys:List O} (E:cI P w D ι env a) (h:xs.mapM (cO P)=some ys):(xs.map a.eval).length=ys.length/\∀j y,ys[j]? =some y->di P w D ι (dm env y) ((xs.map a.eval).getD j undef):=by
 induction xs generalizing ys with
 |nil=>simp at h;subst h;simp
 |cons x r ih=>
  simp only[List.mapM_cons,Option.bind_eq_bind,Option.bind_eq_some_iff]at h
  obtain⟨c,hc,qp,dC,h⟩:=h
  simp at h;subst h
  obtain⟨h1,h2⟩:=ih dC
  refine⟨by simpa using h1,fun j d hd=>?_⟩
  cases j with
  |zero=>simp at hd ⊢;subst hd;exact dw E hc
  |succ j=>simp at hd ⊢;simpa using h2 j d hd
theorem Rb {f:Nat} {first dp:Array Operand} {B8:List O} (E:cI P w D ι env a) (ho:o.op=.makeFunc (.func f) first dp) (hf:first= #[]) (hc:ga P f=true) (hx:dp.toList.mapM (cO P)=some B8):oU P a o w D ι (.fn f (B8.map (dm env))):=by
 subst hf
 obtain⟨h1,h2⟩:=Fy E hx
 refine⟨.func (.func f) #[] (dp.map a.eval),by simp only[execOp,ho,Instr.makeFunc,Sem.run_bind,Sem.run_pure,Result.andThen_ok];simp,.fn _ _ _ (fun j=>(dp.toList.map a.eval).getD j undef) hc (by simpa using h1) (fun j hj=>?_) (fun j x RK=>?_)⟩
 ·simp at hj h1
  have:j<dp.size:=by omega
  simp[this]
 ·simp only[List.getElem?_map,Option.map_eq_some_iff]at RK
  obtain⟨y,hy,rfl⟩:=RK
  exact h2 j y hy
theorem Rc {f:Nat} {first dp:Array Operand} {B8:List O} (E:cI P w D ι env a) (ho:o.op=.makeFunc (.func f) first dp) (hf:dp= #[]) (hc:ga P f=true) (hx:first.toList.mapM (cO P)=some B8):oU P a o w D ι (.uE f (B8.map (dm env))):=by
 subst hf
 obtain⟨h1,h2⟩:=Fy E hx
 refine⟨.func (.func f) (first.map a.eval) #[],by simp only[execOp,ho,Instr.makeFunc,Sem.run_bind,Sem.run_pure,Result.andThen_ok];simp,.uE _ _ _ (fun j=>(first.toList.map a.eval).getD j undef) hc (by simpa using h1) (fun j hj=>?_) (fun j x RK=>?_)⟩
 ·simp at hj h1
  have:j<first.size:=by omega
  simp[this]
 ·simp only[List.getElem?_map,Option.map_eq_some_iff]at RK
  obtain⟨y,hy,rfl⟩:=RK
  exact h2 j y hy
end
end Go.Proofs.YtgoelphibofcmaaGreat.V

namespace Go.Proofs.YtgoelphibofcmaaGreat.V
open Go.RowKit
variable {P:Program} {w w':World} {D D':Nat->Prop} {ι ι':Names}
def Mk (P:Program) (a:Act) (o:Oper) (w:World) (D:Nat->Prop) (ι:Names) (id:Id) (v:AV) (r:Row):Prop:=
 ∃u cells T,(execOp a.eval o).run P w=.ok (.value u) (w.alloc (.cells cells T))/\r.w=true/\r.rows.length*r.sz<=cells.size/\(∀cs∈r.rows,cs.length=r.sz)/\(∀cs∈r.rows,∀a∈cs,a.cell=true)/\
  (∀i j cs a,r.rows[i]? =some cs->cs[j]? =some a->∃x,cells[i*r.sz+j]? =some x/\di P w D ι a x)/\∀ι':Names,ι' id=some ⟨w.heap.size,r.sz,cells.size,none⟩->di P w D ι' v u
section
variable {g:Rows} {hs:Nat} {env:Env} {a:Act} {o:Oper} {id:Id} {v:AV}
theorem kL {vs:List Value} {cs:List K} (h:vs.mapM HR=some cs):fF P w D ι (cs.map K.av) vs.toArray:=by
 obtain⟨h1,h2⟩:=sC h
 refine⟨by simp[h1],fun j a ha=>?_⟩
 simp only[List.getElem?_map,Option.map_eq_some_iff]at ha
 obtain⟨c,hc,rfl⟩:=ha
 exact⟨c.val,by simpa using h2 j c hc,xN c⟩
theorem ke {t:TypeId} {z:List K} (h:jV P t=some z):∃i v,P.info? t=some i/\i.zero=some v/\v.cells.size=i.size/\v.cells.toList.mapM HR=some z/\z.length=i.size:=by
 unfold jV at h
 split at h
 ·rename_i i hi
  split at h
  ·rename_i v hv
   split at h
   ·rename_i hs
    exact⟨i,v,hi,hv,hs,h,by rw[(sC h).1];simpa using hs⟩
   ·simp at h
  ·simp at h
 ·simp at h
theorem GL {cs:List AV} {cells:Array Value} (h:fF P w D ι cs cells):∀i j c a,[cs][i]? =some c->c[j]? =some a->∃x,cells[i*cs.length+j]? =some x/\di P w D ι a x:=by
 intro i j c a hi hj
 cases i with
 |zero=>simp at hi;subst hi;simpa using h.2 j a hj
 |succ i=>simp at hi
theorem Ts {t:TypeId} {z:List K} (ho:o.op=.alloc t) (hz:jV P t=some z):Mk P a o w D ι id (.ptr id 0 0) ⟨true,z.length,[z.map K.av]⟩:=by
 obtain⟨i,v,hi,hv,hs,hm,hl⟩:=ke hz
 have hk:=kL (P:=P) (w:=w) (D:=D) (ι:=ι) hm
 refine⟨.pointer (some ⟨w.heap.size,0,none⟩),v.cells,t,?_,rfl,?_,?_,?_,?_,?_⟩
 ·simp only[execOp,ho,Instr.alloc,zeroValue,typeInfo,Sem.run_bind]
  simp[hi,hv,newVar,newRow]
 ·simp[hl,hs]
 ·intro cs dC;simp at dC;subst dC;simp
 ·intro cs dC x hx;simp at dC;subst dC
  obtain⟨c,_,rfl⟩:=List.mem_map.1 hx;exact c.nD
 ·have:=GL hk;simpa using this
 ·intro ι' hι
  have:=di.ptr (P:=P) (w:=w) (D:=D) (ι:=ι') id 0 0 _ hι rfl
  simpa using this
theorem rN {x:AV} {u:Value} (h:di P w D ι x u) (hc:x.cells.all AV.cell=true):fF P w D ι x.cells u.cells:=by
 obtain⟨h1,f,h2,h3⟩:=h.cells hc
 exact⟨h1,fun j a ha=>⟨f j,h2 j (List.getElem?_eq_some_iff.1 ha).1,h3 j a ha⟩⟩
theorem Tq {t:TypeId} {x:Operand} {x':O} {cs:List AV} (E:cI P w D ι env a) (ho:o.op=.box t x) (hx:cO P x=some x') (hb:cQ (dm env x')=some cs):Mk P a o w D ι id (.ptr id 0 0) ⟨true,cs.length,[cs]⟩:=by
 have hr:=dw E hx
 unfold cQ at hb
 split at hb
 ·rename_i dx
  simp at hb;subst hb
  have hk:=rN hr dx
  refine⟨.pointer (some ⟨w.heap.size,0,none⟩),(a.eval x).cells,t,?_,rfl,?_,?_,?_,?_,?_⟩
  ·simp only[execOp,ho,Instr.box,Sem.run_bind]
   simp[newVar,newRow]
  ·simp[hk.1]
  ·intro cs dC;simp at dC;subst dC;rfl
  ·intro cs dC y hy;simp at dC;subst dC
   exact List.all_eq_true.1 dx y hy
  ·exact GL hk
  ·intro ι' hι
   have:=di.ptr (P:=P) (w:=w) (D:=D) (ι:=ι') id 0 0 _ hι rfl
   simpa using this
 ·simp at hb
theorem foldl_set:∀(vs:List Value) (n off:Nat) (cells:Array Value),off+n+vs.length<=cells.size->((vs.zipIdx n).foldl (fun cs (x:Value×Nat)=>cs.setIfInBounds (off+x.2) x.1) cells).size=cells.size/\
  ∀k,((vs.zipIdx n).foldl (fun cs (x:Value×Nat)=>cs.setIfInBounds (off+x.2) x.1) cells)[k]? =if off+n<=k/\k<off+n+vs.length then vs[k-(off+n)]? else cells[k]?
 |[],n,off,cells,_=>⟨rfl,fun k=>by simp;intro h1 h2;omega⟩
 |v::r,n,off,cells,h=>by
  simp only[List.length_cons]at h
  obtain⟨h1,h2⟩:=foldl_set r (n+1) off (cells.setIfInBounds (off+n) v) (by simp;omega)
  simp only[List.zipIdx_cons,List.foldl_cons]
  refine⟨by rw[h1];simp,fun k=>?_⟩
  rw[h2 k]
  simp only[List.length_cons]
  by_cases hk:k=off+n
  ·subst hk
   rw[if_neg (by omega),if_pos (by omega)]
   simp[show off+n<cells.size by omega]
  ·by_cases xk:off+n<=k/\k<off+n+(r.length+1)
   ·rw[if_pos (by omega),if_pos xk]
    have:k-(off+n)=(k-(off+(n+1)))+1:=by omega
    rw[this,List.getElem?_cons_succ]
   ·rw[if_neg (by omega),if_neg xk,Array.getElem?_setIfInBounds_ne (by omega)]
theorem wZ (place:Nat->Option (Nat×Nat)):∀(ps:List (Nat×Value)) (qs:List (Nat×Nat×AV)) (cells:Array Value) (cs res:List AV),fF P w D ι cs cells->(∀a∈cs,a.cell=true)->ps.length=qs.length->
  (∀(k:Nat) i u o' n x,ps[k]? =some (i,u)->qs[k]? =some (o',n,x)->place i=some (o',n)/\di P w D ι x u)->cK cs qs=some res->∃jD,Instr.fill place cells ps=some jD/\fF P w D ι res jD/\(∀a∈res,a.cell=true)/\res.length=cs.length:=by
 intro ps
 induction ps with
 |nil=>
  intro qs cells cs res hR hf hl _ hv
  cases qs with
  |nil=>simp[cK]at hv;subst hv;exact⟨cells,rfl,hR,hf,rfl⟩
  |cons q r=>simp at hl
 |cons p ps ih=>
  intro qs cells cs res hR hf hl hp hv
  cases qs with
  |nil=>simp at hl
  |cons q qs=>
   obtain⟨i,u⟩:=p
   obtain⟨oo,n,x⟩:=q
   obtain⟨me,hr⟩:=hp 0 i u oo n x rfl rfl
   unfold cK at hv
   split at hv
   ·rename_i hc
    obtain⟨c1,c2,c3⟩:=hc
    have hk:=rN hr c3
    have hus:u.cells.size=n:=by rw[hk.1,c1]
    have dC:cells.size=cs.length:=hR.1
    unfold Instr.fill
    simp only[me]
    rw[if_neg (by rw[hus,dC];simp;omega)]
    obtain⟨s1,s2⟩:=foldl_set u.cells.toList 0 oo cells (by simp;omega)
    have e0:(u.cells.zipIdx.foldl (fun cs (x:Value×Nat)=>cs.setIfInBounds (oo+x.2) x.1) cells)=(u.cells.toList.zipIdx 0).foldl (fun cs (x:Value×Nat)=>cs.setIfInBounds (oo+x.2) x.1) cells:=by
     rw[<-Array.foldl_toList];simp
    have yH:=ih qs (u.cells.zipIdx.foldl (fun cs (x:Value×Nat)=>cs.setIfInBounds (oo+x.2) x.1) cells) (cs.take oo++x.cells++cs.drop (oo+n)) res ?_ ?_ (by simpa using hl) (fun k i u o' n x h1 h2=>hp (k+1) i u o' n x (by simpa using h1) (by simpa using h2)) hv
    ·obtain⟨jD,h1,h2,h3,h4⟩:=yH
     refine⟨jD,h1,h2,h3,?_⟩
     rw[h4];simp;omega
    ·rw[e0]
     refine⟨by rw[s1,dC];simp;omega,fun j a ha=>?_⟩
     rw[s2 j]
     simp only[Nat.add_zero,Array.length_toList]
     by_cases hj:oo<=j/\j<oo+u.cells.size
     ·rw[if_pos hj]
      rw[List.append_assoc,List.getElem?_append_right (by simp;omega),List.getElem?_append_left (by simp;omega)]at ha
      simp only[List.length_take]at ha
      rw[show min oo cs.length=oo by omega]at ha
      simpa using hk.2 _ _ ha
     ·rw[if_neg hj]
      by_cases V5:j<oo
      ·rw[List.append_assoc,List.getElem?_append_left (by simp;omega),List.getElem?_take,if_pos V5]at ha
       exact hR.2 _ _ ha
      ·rw[List.getElem?_append_right (by simp;omega)]at ha
       simp only[List.length_append,List.length_take,List.getElem?_drop]at ha
       rw[show oo+n+(j-(min oo cs.length+x.cells.length))=j by omega]at ha
       exact hR.2 _ _ ha
    ·intro b hb
     rcases List.mem_append.1 hb with hb|hb
     ·rcases List.mem_append.1 hb with hb|hb
      ·exact hf b (List.mem_of_mem_take hb)
      ·exact List.all_eq_true.1 c3 b hb
     ·exact hf b (List.mem_of_mem_drop hb)
   ·simp at hv
theorem yE {fs:List Field} (h:∀f∈fs,(P.info? f.type).isSome=true):∃AZ,fs.mapM (fun f=>(P.info? f.type).map fun i=>(f.offset,i.size))=some AZ/\∀(i:Nat) (f:Field) (n:Nat),fs[i]? =some f->eE P f.type=some n->AZ[i]? =some (f.offset,n):=by
 induction fs with
 |nil=>exact⟨[],rfl,fun i f n h=>by simp at h⟩
 |cons f r ih=>
  obtain⟨q,h1,h2⟩:=ih (fun x hx=>h x (List.mem_cons_of_mem _ hx))
  obtain⟨i,hi⟩:=Option.isSome_iff_exists.1 (h f (by simp))
  refine⟨(f.offset,i.size)::q,by simp[hi,h1],fun k x n hk hn=>?_⟩
  cases k with
  |zero=>simp at hk;subst hk;simp[eE,hi]at hn;subst hn;rfl
  |succ k=>simp at hk ⊢;exact h2 k x n hk hn
theorem qN {ps:List (Nat×Operand)} {l:List (Nat×O)} (E:cI P w D ι env a) (h:ps.mapM (fun(x:Nat×Operand)=>(cO P x.2).map (x.1,·))=some l):l.length=ps.length/\∀(k i:Nat) (y:O),l[k]? =some (i,y)->∃x,ps[k]? =some (i,x)/\cO P x=some y:=by
 induction ps generalizing l with
 |nil=>simp at h;subst h;simp
 |cons p r ih=>
  simp only[List.mapM_cons,Option.bind_eq_bind,Option.bind_eq_some_iff]at h
  obtain⟨c,hc,qp,dC,h⟩:=h
  simp at h;subst h
  obtain⟨h1,h2⟩:=ih dC
  simp only[Option.map_eq_some_iff]at hc
  obtain⟨y,hy,rfl⟩:=hc
  refine⟨by simp[h1],fun k i z hk=>?_⟩
  cases k with
  |zero=>simp at hk;obtain⟨rfl,rfl⟩:=hk;exact⟨p.2,rfl,hy⟩
  |succ k=>simp at hk ⊢;exact h2 k i z hk
theorem En {fs:Array Field} {l:List (Nat×O)} {q:List (Nat×Nat×O)} (h:tq P fs l=some q):q.length=l.length/\∀(k oo n:Nat) (y:O),q[k]? =some (oo,n,y)->∃(i:Nat) (f:Field),l[k]? =some (i,y)/\fs[i]? =some f/\f.offset=oo/\eE P f.type=some n:=by
 induction l generalizing q with
 |nil=>simp[tq]at h;subst h;simp
 |cons p r ih=>
  obtain⟨i,x⟩:=p
  unfold tq at h
  split at h
  ·rename_i f hf
   split at h
   ·rename_i n hn
    simp only[Option.map_eq_some_iff]at h
    obtain⟨q',M8,rfl⟩:=h
    obtain⟨h1,h2⟩:=ih M8
    refine⟨by simp[h1],fun k oo m y hk=>?_⟩
    cases k with
    |zero=>simp at hk;obtain⟨rfl,rfl,rfl⟩:=hk;exact⟨i,f,rfl,hf,rfl,hn⟩
    |succ k=>simp only[List.getElem?_cons_succ]at hk ⊢;exact h2 k oo m y hk
   ·simp at h
  ·simp at h
theorem fF.agg {xs:List AV} {vs:Array Value} (h:fF P w D ι xs vs) (hf:∀a∈xs,a.cell=true):di P w D ι (.agg xs) (.agg vs):=
 .agg xs vs (fun j=>vs.getD j undef) h.1 hf (fun j hj=>by
  have:j<vs.size:=by rw[h.1];exact hj
  simp[this]) (fun j a ha=>by
  obtain⟨u,h1,h2⟩:=h.2 j a ha
  simpa[Array.getD_eq_getD_getElem?,h1]using h2)
theorem N0 {t:TypeId} {ps:Array (Nat×Operand)} {fs:Array Field} {z:List K} {l:List (Nat×O)} {q:List (Nat×Nat×O)} {cs:List AV} (E:cI P w D ι env a) (ho:o.op=.build t ps) (ht:P.underlying t=some (.struct fs)) (hz:jV P t=some z) (hl:tx P ps=some l)
  (sf:∀f∈fs.toList,(P.info? f.type).isSome=true) (hq:tq P fs l=some q) (hv:cK (z.map K.av) (q.map fun(o,n,x)=>(o,n,dm env x))=some cs):oU P a o w D ι (.agg cs):=by
 obtain⟨it,zv,hi,mW,hs,hm,Gz⟩:=ke hz
 obtain⟨AZ,me,Wt⟩:=yE sf
 have hk:=kL (P:=P) (w:=w) (D:=D) (ι:=ι) hm
 obtain⟨n1,r1⟩:=qN E hl
 obtain⟨n2,r2⟩:=En hq
 obtain⟨jD,h1,h2,h3,_⟩:=wZ (P:=P) (w:=w) (D:=D) (ι:=ι) (AZ.toArray[·]?) (ps.toList.map fun(i,x)=>(i,a.eval x)) (q.map fun(o,n,x)=>(o,n,dm env x)) zv.cells _ cs (by simpa using hk)
  (fun b hb=>by obtain⟨c,_,rfl⟩:=List.mem_map.1 hb;exact c.nD) (by simp[n2,n1]) (fun k i u o' n x yk xk=>by
   simp only[List.getElem?_map,Option.map_eq_some_iff]at yk xk
   obtain⟨⟨i',x'⟩,hp,e1⟩:=yk
   obtain⟨⟨o2,n',y⟩,M8,e2⟩:=xk
   simp only[Prod.mk.injEq]at e1 e2
   obtain⟨rfl,rfl⟩:=e1
   obtain⟨rfl,rfl,rfl⟩:=e2
   obtain⟨i2,f,Kf,hf,rfl,hn⟩:=r2 _ _ _ _ M8
   obtain⟨x2,vd,hc⟩:=r1 _ _ _ Kf
   rw[hp]at vd
   simp only[Option.some.injEq,Prod.mk.injEq]at vd
   obtain⟨rfl,rfl⟩:=vd
   exact⟨by simpa using Wt _ _ _ (by simpa using hf) hn,dw E hc⟩) hv
 refine⟨.agg jD,?_,h2.agg h3⟩
 have hb:P.built t ((ps.map fun(i,x)=>(i,a.eval x)).toList)=some jD:=by
  unfold Program.built
  simp only[hi,ht,mW,me]
  simpa using h1
 simp only[execOp,ho,Sem.run_bind,run_build w t _ _ hb,Result.andThen_ok,Sem.run_pure]
theorem L0 {t e:TypeId} {len n:Nat} {ps:Array (Nat×Operand)} {z:List K} {l:List (Nat×O)} {cs:List AV} (E:cI P w D ι env a) (ho:o.op=.build t ps) (ht:P.underlying t=some (.array len e)) (hz:jV P t=some z) (hl:tx P ps=some l) (hn:eE P e=some n)
  (hv:cK (z.map K.av) ((l.map fun(x:Nat×O)=>(x.1*n,n,x.2)).map fun(o,n,x)=>(o,n,dm env x))=some cs):oU P a o w D ι (.agg cs):=by
 obtain⟨it,zv,hi,mW,hs,hm,Gz⟩:=ke hz
 have hk:=kL (P:=P) (w:=w) (D:=D) (ι:=ι) hm
 obtain⟨n1,r1⟩:=qN E hl
 obtain⟨ie,IX,fH⟩:∃ie,P.info? e=some ie/\ie.size=n:=by simpa[eE]using hn
 obtain⟨jD,h1,h2,h3,_⟩:=wZ (P:=P) (w:=w) (D:=D) (ι:=ι) (fun i=>some (i*ie.size,ie.size)) (ps.toList.map fun(i,x)=>(i,a.eval x)) ((l.map fun(x:Nat×O)=>(x.1*n,n,x.2)).map fun(o,n,x)=>(o,n,dm env x)) zv.cells _ cs (by simpa using hk)
  (fun b hb=>by obtain⟨c,_,rfl⟩:=List.mem_map.1 hb;exact c.nD) (by simp[n1]) (fun k i u o' n' x yk xk=>by
   simp only[List.getElem?_map,Option.map_eq_some_iff]at yk xk
   obtain⟨⟨i',x'⟩,hp,e1⟩:=yk
   obtain⟨⟨o2,n2,y⟩,⟨⟨i2,y2⟩,Kf,e3⟩,e2⟩:=xk
   simp only[Prod.mk.injEq]at e1 e2 e3
   obtain⟨rfl,rfl⟩:=e1
   obtain⟨rfl,rfl,rfl⟩:=e2
   obtain⟨rfl,rfl,rfl⟩:=e3
   obtain⟨x2,vd,hc⟩:=r1 _ _ _ Kf
   rw[hp]at vd
   simp only[Option.some.injEq,Prod.mk.injEq]at vd
   obtain⟨rfl,rfl⟩:=vd
   exact⟨by rw[fH],dw E hc⟩) hv
 refine⟨.agg jD,?_,h2.agg h3⟩
 have hb:P.built t ((ps.map fun(i,x)=>(i,a.eval x)).toList)=some jD:=by
  unfold Program.built
  simp only[hi,ht,mW,IX]
  simpa using h1
 simp only[execOp,ho,Sem.run_bind,run_build w t _ _ hb,Result.andThen_ok,Sem.run_pure]
theorem wY:∀(vs:List AV) (sz i:Nat) (rs:List (List AV)) (cs:List AV),0<sz->cs.length=(i+vs.length)*sz->rowsOf sz vs=some rs->
  cK cs ((vs.zipIdx i).map fun(v,j)=>(j*sz,sz,v))=some (cs.take (i*sz)++rs.flatten)/\rs.length=vs.length/\(∀c∈rs,c.length=sz)/\∀c∈rs,∀x∈c,x.cell=true
 |[],sz,i,rs,cs,_,hl,h=>by
  simp[rowsOf]at h;subst h
  simp at hl
  simp[cK,List.take_of_length_le (show cs.length<=i*sz by omega)]
 |v::r,sz,i,rs,cs,fH,hl,h=>by
  simp only[rowsOf,Option.bind_eq_some_iff,Option.map_eq_some_iff]at h
  obtain⟨c,hc,rs',zm,rfl⟩:=h
  unfold rowOf at hc
  split at hc
  ·rename_i AA
   simp at hc;subst hc
   obtain⟨nw,yF⟩:=AA
   simp only[List.length_cons]at hl
   have hmul:(i+(r.length+1))*sz=i*sz+sz+r.length*sz:=by rw[Nat.add_mul,Nat.add_mul];omega
   have ih:=wY r sz (i+1) rs' (cs.take (i*sz)++v.cells++cs.drop (i*sz+sz)) fH (by
    simp[nw];rw[Nat.add_mul,Nat.add_mul];omega) zm
   refine⟨?_,by simp[ih.2.1],?_,?_⟩
   ·simp only[List.zipIdx_cons,List.map_cons,cK]
    rw[if_pos ⟨nw,by omega,yF⟩,ih.1]
    congr 1
    rw[List.flatten_cons,<-List.append_assoc]
    congr 1
    rw[Nat.add_mul,Nat.one_mul,List.take_append_of_le_length (by simp[nw];omega)]
    rw[List.take_of_length_le (by simp[nw];omega)]
   ·intro c' lk;rcases List.mem_cons.1 lk with rfl|lk
    ·exact nw
    ·exact ih.2.2.1 c' lk
   ·intro c' lk;rcases List.mem_cons.1 lk with rfl|lk
    ·exact List.all_eq_true.1 yF
    ·exact ih.2.2.2 c' lk
  ·simp at hc
theorem flat_get {α:Type} {pa:List (List α)} {sz:Nat} (h:∀cs∈pa,cs.length=sz) {i j:Nat} {cs:List α} {a:α} (hi:pa[i]? =some cs) (hj:cs[j]? =some a):pa.flatten[i*sz+j]? =some a:=by
 induction pa generalizing i with
 |nil=>simp at hi
 |cons c r ih=>
  have hc:c.length=sz:=h c (by simp)
  cases i with
  |zero=>
   simp at hi;subst hi
   have ew:=(List.getElem?_eq_some_iff.1 hj).1
   rw[List.flatten_cons,List.getElem?_append_left (by omega)];simpa using hj
  |succ i=>
   rw[List.flatten_cons,List.getElem?_append_right (by rw[hc,Nat.succ_mul];omega)]
   have:(i+1)*sz+j-c.length=i*sz+j:=by rw[hc,Nat.succ_mul];omega
   rw[this]
   exact ih (fun cs dC=>h cs (List.mem_cons_of_mem _ dC)) (by simpa using hi)
theorem JU {α:Type} {pa:List (List α)} {sz:Nat} (h:∀cs∈pa,cs.length=sz):pa.flatten.length=pa.length*sz:=by
 induction pa with
 |nil=>simp
 |cons c r ih=>
  rw[List.flatten_cons,List.length_append,h c (by simp),ih (fun cs dC=>h cs (List.mem_cons_of_mem _ dC)),List.length_cons,Nat.succ_mul];omega
theorem pR {zv:Value} {z:List K} {n:Nat} (hm:zv.cells.toList.mapM HR=some z) (kK:0<z.length):∀k,k<n->∃c,z[k % z.length]? =some c/\((Array.range n).map (zv.cells[· % zv.cells.size]!))[k]? =some c.val:=by
 intro k hk
 obtain⟨h1,h2⟩:=sC hm
 have fH:zv.cells.size=z.length:=by simpa using h1.symm
 have ew:k % z.length<z.length:=Nat.mod_lt _ kK
 refine⟨z[k % z.length],List.getElem?_eq_getElem ew,?_⟩
 have h3:=h2 _ _ (List.getElem?_eq_getElem ew)
 simp only[Array.getElem?_toList]at h3
 have CA:k % z.length<zv.cells.size:=by rw[fH];exact ew
 rw[Array.getElem?_map,Array.getElem?_range,if_pos hk]
 simp only[Option.map_some]
 rw[fH,getElem!_pos zv.cells (k % z.length) CA]
 rw[Array.getElem?_eq_getElem CA]at h3
 exact h3
theorem KO {t e:TypeId} {len sz:Nat} {ps:Array (Nat×Operand)} {z:List K} {l:List (Nat×O)} {rs:List (List AV)} (E:cI P w D ι env a) (ho:o.op=.buildSlice t len ps) (ht:P.underlying t=some (.slice e)) (fH:eE P e=some (sz+1)) (hz:jV P e=some z)
  (hl:tx P ps=some l) (IZ:len*(sz+1)<=4096) (S5:l.map (·.1)=List.range len) (hv:rowsOf (sz+1) (l.map fun x=>dm env x.2)=some rs):Mk P a o w D ι id (.own id 0 len) ⟨true,sz+1,rs⟩:=by
 obtain⟨it,zv,hi,mW,hs,hm,Gz⟩:=ke hz
 have jS:it.size=sz+1:=by simpa[eE,hi]using fH
 obtain⟨n1,r1⟩:=qN E hl
 have Gn:l.length=len:=by have:=congrArg List.length S5;simpa using this
 by_cases h0:len=0
 ·subst h0
  have Oq:l=[]:=List.length_eq_zero_iff.1 Gn
  subst Oq
  simp[rowsOf]at hv;subst hv
  have UH:ps= #[]:=by
   apply Array.ext';apply List.eq_nil_of_length_eq_zero;rw[<-n1];rfl
  subst UH
  refine⟨.slice (some ⟨w.heap.size,0,none⟩) 0 0, #[],e,?_,rfl,by simp,by simp,by simp,fun i j cs x hi=>by simp at hi,fun ι' hι=>?_⟩
  ·simp[execOp,ho,Instr.buildSlice,run_underlying ht,sizeOf,typeInfo,hi,Instr.fill,newRow,Array.range_zero']
  ·exact .own _ 0 0 0 0 _ hι rfl (Nat.le_refl _) (.inl rfl) (by simp) (by simp[maxLen])
 ·have zp:fF P w D ι ((List.range (len*(sz+1))).map fun k=>(z.getD (k % z.length) .bD).av) ((Array.range (len*(sz+1))).map (zv.cells[· % zv.cells.size]!)):=by
   refine⟨by simp,fun j x hx=>?_⟩
   simp only[List.getElem?_map,Option.map_eq_some_iff]at hx
   obtain⟨k,hk,rfl⟩:=hx
   have kT:=(List.getElem?_eq_some_iff.1 hk).1
   simp at kT
   rw[List.getElem?_range kT]at hk
   injection hk with hk
   subst hk
   obtain⟨c,hc,Rs⟩:=pR hm (by rw[Gz,jS];omega) j kT
   exact⟨c.val,Rs,by rw[List.getD_eq_getElem?_getD,hc];exact xN c⟩
  obtain⟨f1,f2,f3,f4⟩:=wY (l.map fun x=>dm env x.2) (sz+1) 0 rs ((List.range (len*(sz+1))).map fun k=>(z.getD (k % z.length) .bD).av) (by omega) (by simp[Gn]) hv
  obtain⟨jD,h1,h2,h3,h4⟩:=wZ (P:=P) (w:=w) (D:=D) (ι:=ι) (fun i=>some (i*it.size,it.size)) (ps.toList.map fun(i,x)=>(i,a.eval x)) _ _ _ _ zp
   (fun b hb=>by obtain⟨c,_,rfl⟩:=List.mem_map.1 hb;exact K.nD _) (by simp[n1]) (fun k i u o' n x yk xk=>by
   simp only[List.getElem?_map,Option.map_eq_some_iff]at yk xk
   obtain⟨⟨i',x'⟩,hp,e1⟩:=yk
   obtain⟨⟨v2,j2⟩,M8,e2⟩:=xk
   simp only[Prod.mk.injEq]at e1 e2
   obtain⟨rfl,rfl⟩:=e1
   obtain⟨rfl,rfl,rfl⟩:=e2
   rw[List.getElem?_zipIdx]at M8
   simp only[List.getElem?_map,Option.map_map,Option.map_eq_some_iff,Function.comp_apply,Prod.mk.injEq,Nat.zero_add]at M8
   obtain⟨⟨i2,y⟩,Kf,rfl,rfl⟩:=M8
   obtain⟨x2,vd,hc⟩:=r1 _ _ _ Kf
   rw[hp]at vd
   simp only[Option.some.injEq,Prod.mk.injEq]at vd
   obtain⟨rfl,rfl⟩:=vd
   have zk:(l.map (·.1))[k]? =some i':=by rw[List.getElem?_map,Kf];rfl
   have kT:=(List.getElem?_eq_some_iff.1 zk).1
   rw[S5]at zk
   simp at kT
   rw[List.getElem?_range (by omega)]at zk
   injection zk with zk
   subst zk
   exact⟨by rw[jS],dw E hc⟩) f1
  simp only[Nat.zero_mul,List.take_zero,List.nil_append,List.length_map]at h2 h3 h4 f2
  have dC:jD.size=len*(sz+1):=by rw[h2.1,h4];simp
  refine⟨.slice (some ⟨w.heap.size,0,none⟩) len len,jD,e,?_,rfl,?_,f3,f4,fun i j cs x rS hj=>h2.2 _ _ (flat_get f3 rS hj),fun ι' hι=>?_⟩
  ·have gy:=run_buildSlice (P:=P) w t e len (ps.map fun(i,x)=>(i,a.eval x)) jD it zv ht hi mW (by rw[jS];omega) (by rw[jS];exact Nat.mul_ne_zero h0 (by omega)) (by rw[<-jS]at h1;simpa using h1)
   simp only[execOp,ho,Sem.run_bind,gy,Result.andThen_ok,Sem.run_pure]
  ·dsimp only;rw[f2,Gn,dC];exact Nat.le_refl _
  ·refine .own _ 0 len 0 len _ hι rfl (Nat.le_refl _) (.inr (by simp)) ?_ (by simp only[maxLen];have:=Nat.le_mul_of_pos_right len (show 0<sz+1 by omega);omega)
   dsimp only;rw[dC];simp
theorem H4 {t e:TypeId} {it:TypeInfo} {m:Nat} {z:List K} {l c:Operand} {l' c':O} {n:Nat} {r:Row} (E:cI P w D ι env a) (ho:o.op=.makeSlice t l c) (ht:P.underlying t=some (.slice e)) (fH:eE P e=some (m+1)) (hz:jV P e=some z) (MY:P.info? e=some it) (hby:it.bytes<=32768)
  (hl:cO P l=some l') (hc:cO P c=some c') (hv:gY z (dm env l') (dm env c')=some (n,r)):Mk P a o w D ι id (.own id 0 n) r:=by
 obtain⟨it',zv,hi,mW,hs,hm,Gz⟩:=ke hz
 rw[MY]at hi;injection hi with hi;subst hi
 have jS:it.size=m+1:=by simpa[eE,MY]using fH
 unfold gY at hv
 split at hv
 ·rename_i k1 ln k2 cn e1 e2
  split at hv
  ·rename_i hb
   obtain⟨b1,b2,b3⟩:=hb
   simp at hv
   obtain⟨rfl,rfl⟩:=hv
   have r1:=dD (e1▸dw E hl)
   have r2:=dD (e2▸dw E hc)
   unfold dG at b3
   have Og:(it.bytes:Int)*cn<=281474976710656:=by
    have h1:(it.bytes:Int)<=32768:=by omega
    have h2:(it.bytes:Int)*cn<=32768*16777216:=Int.mul_le_mul h1 (by omega) (by omega) (by omega)
    omega
   have gy:=run_make (P:=P) w t e it zv ht MY mW k1 k2 ln cn b1 b2 Og (by omega)
   have kP:∀k,k<cn.toNat*it.size->∃x,z[k % z.length]? =some x/\(madeCells zv.cells (cn.toNat*it.size))[k]? =some x.val:=fun k hk=>pR hm (by rw[Gz,jS];omega) k hk
   refine⟨.slice (some ⟨w.heap.size,0,none⟩) ln.toNat cn.toNat,madeCells zv.cells (cn.toNat*it.size),e,by simp only[execOp,ho,r1,r2,Sem.run_bind,gy,Result.andThen_ok,Sem.run_pure],rfl,?_,?_,?_,?_,fun ι' hι=>?_⟩
   ·simp only[List.length_replicate,size_madeCells,Gz]
    exact Nat.mul_le_mul_right _ (by omega)
   ·intro cs dC
    have:=List.eq_of_mem_replicate dC
    subst this;simp
   ·intro cs dC x hx
    have:=List.eq_of_mem_replicate dC
    subst this
    obtain⟨c,_,rfl⟩:=List.mem_map.1 hx;exact c.nD
   ·intro i j cs x rS hj
    have kF:=(List.getElem?_eq_some_iff.1 rS).1
    have:=List.eq_of_mem_replicate (List.mem_of_getElem? rS)
    subst this
    simp only[List.length_replicate]at kF
    simp only[List.getElem?_map,Option.map_eq_some_iff]at hj
    obtain⟨q,hq,rfl⟩:=hj
    have iA:=(List.getElem?_eq_some_iff.1 hq).1
    dsimp only
    obtain⟨x,hx,vd⟩:=kP (i*z.length+j) (by
     rw[<-Gz]
     calc i*z.length+j<i*z.length+z.length:=by omega
      _=(i+1)*z.length:=by rw[Nat.add_mul,Nat.one_mul]
      _<=cn.toNat*z.length:=Nat.mul_le_mul_right _ (by omega))
    rw[Nat.mul_comm i,Nat.mul_add_mod,Nat.mod_eq_of_lt iA,hq]at hx
    injection hx with hx;subst hx
    exact⟨_,by rw[Nat.mul_comm i]at vd ⊢;exact vd,xN q⟩
   ·refine .own _ 0 _ 0 _ _ hι rfl (by omega) (.inr (by simp)) ?_ (by simp only[maxLen];omega)
    dsimp only;rw[size_madeCells,Gz];simp
  ·simp at hv
 ·simp at hv
end
end Go.Proofs.YtgoelphibofcmaaGreat.V

namespace Go.Proofs.YtgoelphibofcmaaGreat.V
open Go.RowKit
variable {P:Program} {w w':World} {D D':Nat->Prop} {ι ι':Names}
def F4 (P:Program) (k:TypeId) (m:MK):Prop:=
 (∃s,m=⟨false,[s]⟩/\fI P k=some s)∨
 (∃fs ts,m=⟨true,ts⟩/\P.underlying k=some (.struct fs)/\eT P 4 0 fs.toList=some ts/\P.stoodInHeld k=false/\∀f∈fs.toList,(fI P f.type).isSome=true)
theorem rZ {t:TypeId} {m:MK} {z:K} (h:tt P t=some (m,z)):∃k e i zv,P.underlying t=some (.map k e)/\P.info? e=some i/\i.zero=some zv/\HR zv=some z/\F4 P k m:=by
 unfold tt at h
 split at h
 ·rename_i k e ht
  split at h
  ·rename_i zv s h1 h2 h3
   simp only[Option.map_eq_some_iff,Prod.mk.injEq]at h
   obtain⟨z',hz,rfl,rfl⟩:=h
   simp only[Option.bind_eq_some_iff]at h2
   obtain⟨i,hi,mW⟩:=h2
   exact⟨k,e,i,zv,ht,hi,mW,hz,.inl ⟨s,rfl,h3⟩⟩
  ·rename_i zv fs h1 h2 h3 h4
   split at h
   ·rename_i ts z' yN hz
    split at h
    ·rename_i hc
     simp only[Option.some.injEq,Prod.mk.injEq]at h
     obtain⟨rfl,rfl⟩:=h
     simp only[Option.bind_eq_some_iff]at h2
     obtain⟨i,hi,mW⟩:=h2
     simp only[Bool.not_eq_true',List.all_eq_true]at hc
     exact⟨k,e,i,zv,ht,hi,mW,hz,.inr ⟨fs,ts,rfl,h4,yN,hc.1,hc.2⟩⟩
    ·cases h
   ·cases h
  ·cases h
 ·cases h
theorem xR {t:TypeId} {s:TS} (ht:fI P t=some s) (em:Bool) (n:Nat) (v:Value):(Instr.checkKey em (n+1) t v).run P w=.ok () w:=by
 unfold Instr.checkKey
 cases s with
 |tB=>simp[run_underlying (qg ht)]
 |tS=>simp[run_underlying (qi ht)]
 |tI=>
  obtain⟨q,hq⟩:=qh ht
  simp[run_underlying hq]
theorem xS (em:Bool) (n:Nat) (vs:Array Value):∀(d:Nat) (fs:List Field) (off:Nat) (ts:List TS),eT P (d+1) off fs=some ts->(∀f∈fs,(fI P f.type).isSome=true)->off+ts.length<=vs.size->
  Sem.run P (forIn fs PUnit.unit fun f (_:PUnit)=>if f.name≠ "_" then do
    let x <-Go.part f.type vs f.offset
    Instr.checkKey em (n+1) f.type x
    pure (ForInStep.yield PUnit.unit)
   else pure (ForInStep.yield PUnit.unit)) w=Result.ok PUnit.unit w
 |d,[],off,ts,_,_,_=>by simp
 |d,f::r,off,ts,hf,hs,hl=>by
  rw[zg]at hf
  split at hf
  ·rename_i hcond
   obtain⟨ho,gM⟩:=hcond
   split at hf
   ·rename_i s RH
    split at hf
    ·rename_i vP
     simp only[Option.map_eq_some_iff]at hf
     obtain⟨OS,hr,rfl⟩:=hf
     simp only[List.length_cons]at hl
     have ih:=xS em n vs d r (off+1) OS hr (fun f hf=>hs f (List.mem_cons_of_mem _ hf)) (by omega)
     have hu:vs[off]? =some vs[off]:=by simp
     simp only[List.forIn_cons,Sem.run_bind,if_pos gM,ho,ni vP hu,Result.andThen_ok,xR RH,Sem.run_pure]
     exact ih
    ·cases hf
   ·rename_i hn
    have:=hs f (by simp)
    rw[hn]at this;cases this
  ·cases hf
theorem FE {k:TypeId} {m:MK} (hk:F4 P k m) (em:Bool) (key:AV) (u:Value) (vP:key.isAgg=m.ka) (hlen:key.cells.length=m.ks) (hr:di P w D ι key u):(Instr.checkKey em 10000 k u).run P w=.ok () w:=by
 rcases hk with⟨s,rfl,hs⟩|⟨fs,ts,rfl,sf,yN,dJ,dx⟩
 ·exact xR hs em 9999 u
 ·cases key<;>simp[AV.isAgg]at vP
  rename_i cs
  obtain⟨vs,f,rfl,h1,_⟩:=jh hr
  unfold Instr.checkKey
  simp only[Sem.run_bind,run_underlying sf,Result.andThen_ok]
  rw[<-Array.forIn_toList]
  have h:=xS (P:=P) (w:=w) em 9998 vs 3 fs.toList 0 ts yN dx (by simp[AV.cells,MK.ks]at hlen;omega)
  rw[h]
  rfl
theorem Ju (a b:ByteArray):(a==b)=decide (a=b):=by
 by_cases h:a=b
 ·subst h;rw[decide_eq_true rfl]
  obtain⟨x⟩:=a
  show(x==x)=true
  simp
 ·rw[decide_eq_false h,Bool.eq_false_iff]
  intro hc
  obtain⟨x⟩:=a
  obtain⟨y⟩:=b
  exact h (by rw[show x=y by simpa using(show(x==y)=true from hc)])
theorem Lt {t:TypeId} {s:TS} {x y:AV} {u v:Value} {b:Bool} {d:TypeDesc} (ht:fI P t=some s) (hd:P.underlying t=some d) (he:fV s x y=some b) (hx:di P w D ι x u) (hy:di P w D ι y v):Instr.sameNow d u v=some b:=by
 unfold fV at he
 split at he
 ·rename_i k n k' n'
  split at he
  ·rename_i hk
   subst hk
   simp at he;subst he
   obtain⟨q,hq⟩:=qh ht
   rw[hd]at hq;injection hq with hq;subst hq
   rw[dD hx,dD hy]
   simp[Instr.sameNow]
   rfl
  ·cases he
 ·simp at he;subst he
  have hq:=qg ht
  rw[hd]at hq;injection hq with hq;subst hq
  rw[fA hx,fA hy];rfl
 ·rename_i a c
  simp at he;subst he
  have hq:=qi ht
  rw[hd]at hq;injection hq with hq;subst hq
  rw[fR hx,fR hy]
  simp only[Instr.sameNow,Ju]
 ·cases he
def Found (es:List MapEntry) (i:Nat) (r:Option Nat) (res:Option (Nat×Value)):Prop:=(r=none/\res=none)∨∃j e,r=some (i+j)/\es[j]? =some e/\res=some (i+j,e.val)
theorem w7 {e:MapEntry} {es:List MapEntry} {i:Nat} {r:Option Nat} {res:Option (Nat×Value)} (h:Found es (i+1) r res):Found (e::es) i r res:=by
 rcases h with h|⟨j,x,h1,h2,h3⟩
 ·exact .inl h
 ·exact .inr ⟨j+1,x,by rw[h1];congr 1;omega,by simpa using h2,by rw[h3];congr 2;omega⟩
theorem Cl {t:TypeId} {s:TS} {d:TypeDesc} {x:AV} {u:Value} (ht:fI P t=some s) (hd:P.underlying t=some d) (hx:di P w D ι x u):∀(rows:List (List AV)) (es:List MapEntry) (i:Nat) (r:Option Nat),es.length=rows.length->
  (∀(j:Nat) (cs:List AV),rows[j]? =some cs->∃(e:MapEntry) (kv:AV),es[j]? =some e/\cs.head? =some kv/\di P w D ι kv e.key)->gz ⟨false,[s]⟩ [x] rows i=some r->∃res,Instr.findNow d u es i=some res/\Found es i r res
 |[],[],i,r,_,_,h=>by
  simp[gz]at h;subst h
  exact⟨none,rfl,.inl ⟨rfl,rfl⟩⟩
 |[],e::es,i,r,hl,_,h=>by simp at hl
 |cs::rows,[],i,r,hl,_,h=>by simp at hl
 |cs::rows,e::es,i,r,hl,hr,h=>by
  obtain⟨e',kv,MT,hk,gH⟩:=hr 0 cs rfl
  simp at MT;subst MT
  have dC:cs.take (MK.ks ⟨false,[s]⟩)=[kv]:=by
   cases cs with
   |nil=>simp at hk
   |cons a l=>simp at hk;subst hk;simp[MK.ks]
  unfold gz at h
  rw[dC]at h
  cases hq:fV s x kv with
  |none=>simp[fj,hq]at h
  |some b=>
   have hs:=Lt ht hd hq hx gH
   cases b with
   |true=>
    simp[fj,hq]at h;subst h
    exact⟨some (i,e.val),by simp[Instr.findNow,hs],.inr ⟨0,e,rfl,rfl,rfl⟩⟩
   |false=>
    simp[fj,hq]at h
    obtain⟨res,h1,h2⟩:=Cl ht hd hx rows es (i+1) r (by simpa using hl) (fun j cs hj=>hr (j+1) cs (by simpa using hj)) h
    exact⟨res,by simp[Instr.findNow,hs,h1],w7 h2⟩
theorem qF {t:TypeId} {fs:Array Field} {ts:List TS} {xs ys:List AV} {vs us:Array Value} {b:Bool} (sf:P.underlying t=some (.struct fs)) (dJ:P.stoodInHeld t=false) (yN:eT P 4 0 fs.toList=some ts) (hx:fF P w D ι xs vs) (hy:fF P w D ι ys us) (hv:fj ts xs ys=some b):(Op.equal t (.agg vs) (.agg us)).run P w=.ok b w:=by
 obtain⟨l1,l2⟩:=sa hv
 have q:=sO (w:=w) 4 fs.toList 0 ts yN 9998 (by omega) xs ys vs us b hx hy (by simpa[List.take_of_length_le,l1,l2]using hv)
 have Oi:P.fieldsOf t=fs:=by simp[Program.fieldsOf,sf]
 unfold Op.equal
 rw[show Op.maxDepth=9999+1 from rfl,run_equalIn_struct w 9999 t _ _ (by rw[Oi];exact sf) dJ,Oi,q]
theorem sL {cs:List AV} {v:Value} (h:di P w D ι (.agg cs) v):∃vs,v=.agg vs/\fF P w D ι cs vs:=by
 obtain⟨vs,f,rfl,n1,_,f1,r1⟩:=jh h
 exact⟨vs,rfl,n1,fun j a ha=>⟨f j,f1 j (List.getElem?_eq_some_iff.1 ha).1,r1 j a ha⟩⟩
theorem Ck {t:TypeId} {fs:Array Field} {ts:List TS} {xs:List AV} {vs:Array Value} (sf:P.underlying t=some (.struct fs)) (dJ:P.stoodInHeld t=false) (yN:eT P 4 0 fs.toList=some ts) (hx:fF P w D ι xs vs):∀(rows:List (List AV)) (es:List MapEntry) (i:Nat) (r:Option Nat),es.length=rows.length->
  (∀(j:Nat) (cs:List AV),rows[j]? =some cs->∃e:MapEntry,es[j]? =some e/\di P w D ι (.agg (cs.take ts.length)) e.key)->gz ⟨true,ts⟩ xs rows i=some r->∃res,(Instr.findAsking t (.agg vs) es i).run P w=.ok res w/\Found es i r res
 |[],[],i,r,_,_,h=>by
  simp[gz]at h;subst h
  exact⟨none,by simp[Instr.findAsking],.inl ⟨rfl,rfl⟩⟩
 |[],e::es,i,r,hl,_,h=>by simp at hl
 |cs::rows,[],i,r,hl,_,h=>by simp at hl
 |cs::rows,e::es,i,r,hl,hr,h=>by
  obtain⟨e',MT,gH⟩:=hr 0 cs rfl
  simp at MT;subst MT
  obtain⟨us,hk,hy⟩:=sL gH
  unfold gz at h
  simp only[MK.ks]at h
  split at h
  ·rename_i hq
   simp at h;subst h
   have q:=qF sf dJ yN hx hy hq
   exact⟨some (i,e.val),by simp[Instr.findAsking,hk,q],.inr ⟨0,e,rfl,rfl,rfl⟩⟩
  ·rename_i hq
   have q:=qF sf dJ yN hx hy hq
   obtain⟨res,h1,h2⟩:=Ck sf dJ yN hx rows es (i+1) r (by simpa using hl) (fun j cs hj=>hr (j+1) cs (by simpa using hj)) h
   exact⟨res,by simp[Instr.findAsking,hk,q,h1],w7 h2⟩
  ·cases h
theorem wU {a:AV} (h:a.isAgg=false):a.cells=[a]:=by cases a<;>simp_all [AV.isAgg,AV.cells]
theorem w6 {k:TypeId} {m:MK} {B:s9} {r:Row} (hk:F4 P k m) {key:AV} {u:Value} (hr:di P w D ι key u) {es:Array MapEntry} (fH:es.size=r.rows.length)
  (hM:∀(i:Nat) (cs:List AV),r.rows[i]? =some cs->∃(e:MapEntry) (kv vv:AV),es[i]? =some e/\part m.ka m.ks cs=some kv/\cs[m.ks]? =some vv/\di P w D ι kv e.key/\di P w D ι vv e.val) {fi:Option Nat} (h:gi m key r.rows=some fi):
  (∀em,(Instr.checkKey em 10000 k u).run P w=.ok () w)/\∃res,(Instr.findKey k u es.toList).run P w=.ok res w/\Found es.toList 0 fi res:=by
 unfold gi at h
 split at h
 ·rename_i hc
  obtain⟨c1,c2,c3⟩:=hc
  refine⟨fun em=>FE hk em key u c1 c2 hr,?_⟩
  rcases hk with⟨s,rfl,hs⟩|⟨fs,ts,rfl,sf,yN,dJ,dx⟩
  ·rw[wU c1]at h
   have hd:∃d,P.underlying k=some d:=by
    cases s with
    |tB=>exact⟨_,qg hs⟩
    |tS=>exact⟨_,qi hs⟩
    |tI=>obtain⟨q,hq⟩:=qh hs;exact⟨_,hq⟩
   obtain⟨d,hd⟩:=hd
   obtain⟨res,h1,h2⟩:=Cl hs hd hr r.rows es.toList 0 fi (by simpa using fH) (fun j cs hj=>by
    obtain⟨e,kv,vv,q1,q2,_,q4,_⟩:=hM j cs hj
    exact⟨e,kv,by simpa using q1,by simpa[part]using q2,q4⟩) h
   exact⟨res,by simp[Instr.findKey,run_underlying hd,h1],h2⟩
  ·cases key<;>simp[AV.isAgg]at c1
   rename_i cs
   obtain⟨vs,rfl,hL⟩:=sL hr
   obtain⟨res,h1,h2⟩:=Ck sf dJ yN hL r.rows es.toList 0 fi (by simpa using fH) (fun j cs hj=>by
    obtain⟨e,kv,vv,q1,q2,_,q4,_⟩:=hM j cs hj
    unfold part at q2
    simp only[if_true]at q2
    split at q2
    ·simp only[Option.some.injEq]at q2;subst q2
     exact⟨e,by simpa using q1,q4⟩
    ·cases q2) h
   exact⟨res,(run_findKey_eq w (by simp[sf]) _ _).trans h1,h2⟩
 ·cases h
section
variable {g:Rows} {hs:Nat} {env:Env} {a:Act} {o:Oper} {id:Id} {v:AV}
theorem AN {m:MK} {x:AV} {u:Value} {p:Id×Row} (S:gJ P hs D ι g w) (hr:di P w D ι x u) (h:dW g m x=some p):∃B,u=.map (some B.b)/\g p.1=some p.2/\ι p.1=some B/\B.k=some (.map m)/\N8 P w D ι B m p.2:=by
 unfold dW at h
 split at h
 ·rename_i i m'
  split at h
  ·rename_i hm
   subst hm
   simp only[Option.map_eq_some_iff]at h
   obtain⟨r,hg,rfl⟩:=h
   obtain⟨B,rfl,hB,hk⟩:=GP hr
   obtain⟨B',dM,R,_⟩:=S.row i r hg
   rw[hB]at dM;injection dM with dM;subst dM
   exact⟨B,rfl,hg,hB,hk,(R.map _ hk).2⟩
  ·cases h
 ·cases h
theorem Ra {t:TypeId} {x k:Operand} {ok:Bool} {m:MK} {z:K} {x' k':O} {mr:Option Row} (S:gJ P hs D ι g w) (E:cI P w D ι env a) (ho:o.op=.lookup t x k ok) (hc:tt P t=some (m,z)) (hx:cO P x=some x') (hk:cO P k=some k')
  (hv:bH (.look m ok z) [dm env x',dm env k'] g id=some (v,mr)):mr=none/\oU P a o w D ι v:=by
 obtain⟨kt,e,i,zv,ht,hi,mW,UC,hK⟩:=rZ hc
 simp only[bH,Option.bind_eq_some_iff,Option.map_eq_some_iff,Prod.mk.injEq]at hv
 obtain⟨p,hp,fi,Cx,y,hy,rfl,rfl⟩:=hv
 obtain⟨B,hu,hg,hB,vN,es,clock,hb,fH,hlen,hM⟩:=AN S (dw E hx) hp
 obtain⟨Ma,res,hf,hF⟩:=w6 (B:=B) hK (dw E hk) fH hM Cx
 have key:∃val,(match res with|some (_,v)=>(v,true)|none=>(zv,false))=(val,fi.isSome)/\di P w D ι y val:=by
  rcases hF with⟨rfl,rfl⟩|⟨j,en,rfl,he,rfl⟩
  ·simp only[dZ,Option.some.injEq]at hy;subst hy
   refine⟨zv,rfl,?_⟩
   rw[AH UC];exact xN z
  ·simp only[dZ,Option.bind_eq_some_iff,Nat.zero_add]at hy
   obtain⟨cs,dC,hy⟩:=hy
   obtain⟨e',kv,vv,q1,_,q3,_,q5⟩:=hM _ cs dC
   rw[hy]at q3;injection q3 with q3;subst q3
   have:e'=en:=by
    have h1:es.toList[j]? =some e':=by simpa using q1
    rw[he]at h1;injection h1 with h1;exact h1.symm
   subst this
   exact⟨_,rfl,q5⟩
 obtain⟨val,pj,lZ⟩:=key
 have fC:(getObj B.b).run P w=.ok (.map es clock) w:=MapKept.run_getObj_map hb
 have hz:(zeroValue e).run P w=.ok zv w:=by simp[zeroValue,typeInfo,hi,mW]
 refine⟨rfl,if ok then .tuple #[val,.bool fi.isSome]else val,?_,?_⟩
 ·simp only[execOp,ho,hu,Instr.lookup,Sem.run_bind,run_underlying ht,Result.andThen_ok,fC,Sem.run_pure,Ma,hf]
  rcases hF with⟨rfl,rfl⟩|⟨j,en,rfl,he,rfl⟩
  ·simp only[Prod.mk.injEq]at pj
   simp[hz,pj.1]
  ·simp only[Prod.mk.injEq]at pj
   simp[pj.1]
 ·cases ok with
  |false=>exact lZ
  |true=>
   refine .gD _ _ (fun j=>if j=0 then val else .bool fi.isSome) rfl (fun j hj=>?_) (fun j b hj=>?_)
   ·have:j=0∨j=1:=by simp at hj;omega
    rcases this with rfl|rfl<;>rfl
   ·match j,hj with
    |0,hj=>simp at hj;subst hj;exact lZ
    |1,hj=>simp at hj;subst hj;exact .eZ _ _ (.bool _)
    |j+2,hj=>simp at hj
theorem Re {t:TypeId} {x:Operand} {m:MK} {z:K} {x':O} {mr:Option Row} (S:gJ P hs D ι g w) (E:cI P w D ι env a) (ho:o.op=.call {callee:=.builtin .len,args:= #[x],argTypes:= #[t]}) (hc:tt P t=some (m,z)) (hx:cO P x=some x')
  (hv:bH (.len m) [dm env x'] g id=some (v,mr)):mr=none/\oU P a o w D ι v:=by
 obtain⟨kt,e,i,zv,ht,hi,mW,UC,hK⟩:=rZ hc
 simp only[bH,Option.map_eq_some_iff,Prod.mk.injEq]at hv
 obtain⟨p,hp,rfl,rfl⟩:=hv
 obtain⟨B,hu,hg,hB,vN,es,clock,hb,fH,hlen,hM⟩:=AN S (dw E hx) hp
 have fC:(getObj B.b).run P w=.ok (.map es clock) w:=MapKept.run_getObj_map hb
 refine⟨rfl,.int .i64 (es.size:Int),?_,by rw[fH];exact .eZ _ _ (.int _ _)⟩
 simp only[execOp,ho,resolve,Sem.run_bind,Sem.run_pure,Result.andThen_ok,invoke,builtin,Array.map,hu]
 simp[Builtin.len_,run_underlying ht,goInt,hu,fC]
def MkM (P:Program) (a:Act) (o:Oper) (w:World) (id:Id) (v:AV) (r:Row):Prop:=
 ∃m,(execOp a.eval o).run P w=.ok (.value (.map (some w.heap.size))) (w.alloc (.map #[] 0))/\v=.map id m/\r=⟨true,m.qe,[]⟩
theorem Tr {t:TypeId} {m:MK} (ho:o.op=.makeMap t none):MkM P a o w id (.map id m) ⟨true,m.qe,[]⟩:=by
 refine⟨m,?_,rfl,rfl⟩
 simp[execOp,ho,Instr.makeMap,go_sem]
def MkC (P:Program) (a:Act) (o:Oper) (w:World) (id:Id) (v:AV) (r:Row):Prop:=
 ∃n,(execOp a.eval o).run P w=.ok (.value (.chan (some w.heap.size))) (w.alloc (.chan n #[] false 0 0 false))/\v=.r6 id/\r=⟨true,qU+n,[]⟩
theorem Qx {t e:TypeId} {x:Operand} {x':O} {dir:ChanDir} {i:TypeInfo} {n:Nat} (E:cI P w D ι env a) (ho:o.op=.makeChan t x) (ht:P.underlying t=some (.chan dir e)) (hi:P.info? e=some i) (hb:i.bytes<=32768) (hx:cO P x=some x') (hn:db (dm env x')=some n):MkC P a o w id (.r6 id) ⟨true,qU+n,[]⟩:=by
 refine⟨n,?_,rfl,rfl⟩
 have hr:=dw E hx
 unfold db at hn
 split at hn
 ·rename_i k m hm
  rw[hm]at hr
  split at hn
  ·rename_i hc
   simp only[Option.some.injEq]at hn
   subst hn
   have uy:((m.toNat:Nat):Int)=m:=by omega
   have ew:(i.bytes:Int)*(m.toNat:Nat)<=281474976710544:=by
    have h1:i.bytes*m.toNat<=32768*1048576:=Nat.mul_le_mul hb (by omega)
    have h2:((i.bytes*m.toNat:Nat):Int)<=281474976710544:=by omega
    rwa [Int.natCast_mul]at h2
   have h:=Conc.run_makeChan (P:=P) (w:=w) ht hi k m.toNat (by omega) ew
   rw[uy]at h
   simp only[execOp,ho,dD hr,Sem.run_bind,h,Result.andThen_ok,Sem.run_pure]
  ·cases hn
 ·cases hn
theorem Ao {x:AV} {u:Value} {i:Id} {r:Row} (S:gJ P hs D ι g w) (hr:di P w D ι x u) (hx:x=.r6 i) (hg:g i=some r):∃B c,u=.chan (some B.b)/\ι i=some B/\B.k=some (.chan c)/\r.sz=qU+c/\Jd P w D ι B c r:=by
 subst hx
 obtain⟨B,c,rfl,hB,hk⟩:=NM hr
 obtain⟨B',dM,R,_⟩:=S.row i r hg
 rw[hB]at dM;injection dM with dM;subst dM
 exact⟨B,c,rfl,hB,hk,R.chan c hk⟩
theorem Q7 {t e:TypeId} {dir:ChanDir} {x:Operand} {x':O} (S:gJ P hs D ι g w) (E:cI P w D ι env a) (ho:o.op=.call {callee:=.builtin .len,args:= #[x],argTypes:= #[t]}) (ht:P.underlying t=some (.chan dir e)) (hx:cO P x=some x') (hv:cZ g (dm env x')=some v):oU P a o w D ι v:=by
 have hr:=dw E hx
 unfold cZ at hv
 split at hv
 ·rename_i i he
  simp only[Option.map_eq_some_iff]at hv
  obtain⟨r,hg,rfl⟩:=hv
  obtain⟨B,c,hu,hB,hk,fH,buf,s,q,hb,L9,_⟩:=Ao S hr he hg
  have fC:(getObj B.b).run P w=.ok (.chan c buf false s q false) w:=by simp[getObj,Sem.run,hb]
  refine⟨.int .i64 (buf.size:Int),?_,by rw[L9];exact .eZ _ _ (.int _ _)⟩
  simp only[execOp,ho,resolve,Sem.run_bind,Sem.run_pure,Result.andThen_ok,invoke,builtin,Array.map,hu]
  simp[Builtin.len_,run_underlying ht,goInt,hu,fC]
 ·cases hv
end
end Go.Proofs.YtgoelphibofcmaaGreat.V

namespace Go.Proofs.YtgoelphibofcmaaGreat.V
open Go.RowKit
variable {P:Program} {w w':World} {D D':Nat->Prop} {ι ι':Names}
def Mn (P:Program) (a:Act) (o:Oper) (w:World) (D:Nat->Prop) (ι:Names) (id:Id) (v:AV):Option Row->Prop
 |none=>oU P a o w D ι v
 |some r=>Mk P a o w D ι id v r∨MkM P a o w id v r∨MkC P a o w id v r
section
variable {g:Rows} {hs:Nat} {env:Env} {a:Act} {o:Oper} {id:Id} {v:AV}
theorem lR {x:Option AV} {mr:Option Row} (h:x.map (·,(none:Option Row))=some (v,mr)) (H:x=some v->oU P a o w D ι v):Mn P a o w D ι id v mr:=by
 cases x with
 |none=>simp at h
 |some y=>simp at h;obtain⟨rfl,rfl⟩:=h;exact H rfl
theorem TC {neg:Bool} {t yt:TypeId} {x y:Operand} {vo:gN} {mr:Option Row} (ho:o.op=.binOp (if neg then .neq else .eql) t x y yt) (hc:tr P neg t x y=some vo) (hq:eU vo (dm env) g id=some (v,mr)) (E:cI P w D ι env a):Mn P a o w D ι id v mr:=by
 unfold tr at hc
 split at hc
 ·split at hc
  ·rename_i e ht
   simp only[Option.map_eq_some_iff]at hc
   obtain⟨x',hx,rfl⟩:=hc
   simp only[eU,ef,Bool.false_eq_true,if_false,Option.map_eq_some_iff,Prod.mk.injEq]at hq
   obtain⟨b,hb,rfl,rfl⟩:=hq
   exact Q3 E ho ht hx hb
  ·simp at hc
 ·split at hc
  ·rename_i ht
   simp only[Option.map_eq_some_iff]at hc
   obtain⟨x',hx,rfl⟩:=hc
   simp only[eU,ef,if_true,Option.map_eq_some_iff,Prod.mk.injEq]at hq
   obtain⟨b,hb,rfl,rfl⟩:=hq
   exact Q2 E ho ht hx hb
  ·simp at hc
 ·split at hc
  ·rename_i ht
   simp only[Option.map_eq_some_iff]at hc
   obtain⟨x',hx,rfl⟩:=hc
   simp only[eU,Option.map_eq_some_iff,Prod.mk.injEq]at hq
   obtain⟨b,hb,rfl,rfl⟩:=hq
   exact TU E ho ht hx hb
  ·simp at hc
 ·split at hc
  ·rename_i s hs
   simp only[Option.bind_eq_bind,Option.bind_eq_some_iff,Option.pure_def,Option.some.injEq]at hc
   obtain⟨x',hx,y',hy,rfl⟩:=hc
   simp only[eU,Option.map_eq_some_iff,Prod.mk.injEq]at hq
   obtain⟨b,hb,rfl,rfl⟩:=hq
   have CD:fI P t=some s:=by
    unfold Vg at hs
    split at hs
    ·rename_i s' h;simp at hs;subst hs;exact h
    ·split at hs
     ·split at hs
      ·simp at hs
      ·simp at hs
     ·simp at hs
   exact TV E ho CD hx hy hb
  ·rename_i ts hs
   simp only[Option.bind_eq_bind,Option.bind_eq_some_iff,Option.pure_def,Option.some.injEq]at hc
   obtain⟨x',hx,y',hy,rfl⟩:=hc
   simp only[eU]at hq
   split at hq
   ·rename_i xs ys h1 h2
    simp only[Option.map_eq_some_iff,Prod.mk.injEq]at hq
    obtain⟨b,hb,rfl,rfl⟩:=hq
    unfold Vg at hs
    split at hs
    ·simp at hs
    ·split at hs
     ·rename_i fs sf
      split at hs
      ·rename_i hg
       simp only[Option.map_eq_some_iff,U3.ag.injEq]at hs
       obtain⟨OS,yN,rfl⟩:=hs
       simp only[Bool.and_eq_true,Bool.not_eq_true']at hg
       exact TR E ho sf hg.1 hg.2 yN hx hy h1 h2 hb
      ·simp at hs
     ·simp at hs
   ·simp at hq
  ·simp at hc
theorem QF {c:Call} {vo:gN} {mr:Option Row} (ho:o.op=.call c) (hc:oe P c=some vo) (hq:eU vo (dm env) g id=some (v,mr)) (S:gJ P hs D ι g w) (E:cI P w D ι env a):Mn P a o w D ι id v mr:=by
 unfold oe at hc
 split at hc
 ·rename_i kS
  split at hc
  ·rename_i x t h1 h2
   have hce:c={callee:=.builtin .len,args:= #[x],argTypes:= #[t]}:=by
    obtain⟨a,b,c⟩:=c
    simp only at h1 h2 kS
    subst kS
    congr
    ·exact Array.ext' h1
    ·exact Array.ext' h2
   rw[hce]at ho
   split at hc
   ·rename_i e ht
    simp only[Option.map_eq_some_iff]at hc
    obtain⟨x',hx,rfl⟩:=hc
    simp only[eU,Option.map_eq_some_iff,Prod.mk.injEq]at hq
    obtain⟨n,hn,rfl,rfl⟩:=hq
    exact TW E ho ht hx hn
   ·rename_i ht
    simp only[Option.map_eq_some_iff]at hc
    obtain⟨x',hx,rfl⟩:=hc
    exact lR hq fun h=>Q8 E ho ht hx h
   ·split at hc
    ·rename_i m z x' hm hx
     simp only[Option.some.injEq]at hc
     subst hc
     obtain⟨rfl,h⟩:=Re (id:=id) S E ho hm hx hq
     exact h
    ·cases hc
   ·rename_i ht
    simp only[Option.map_eq_some_iff]at hc
    obtain⟨x',hx,rfl⟩:=hc
    exact lR hq fun h=>Q7 S E ho ht hx h
   ·simp at hc
  ·simp at hc
 ·split at hc
  ·split at hc
   ·split at hc
    ·split at hc
     ·simp only[Option.bind_eq_bind,Option.bind_eq_some_iff,Option.pure_def,Option.some.injEq]at hc
      obtain⟨x',hx,y',hy,rfl⟩:=hc
      simp[eU]at hq
     ·simp at hc
    ·simp at hc
   ·simp at hc
  ·simp at hc
 ·split at hc
  ·split at hc
   ·split at hc
    ·simp only[Option.map_eq_some_iff]at hc
     obtain⟨x',hx,rfl⟩:=hc
     simp[eU]at hq
    ·simp at hc
   ·simp at hc
  ·simp at hc
 ·split at hc
  ·simp only[Option.map_eq_some_iff]at hc
   obtain⟨x',hx,rfl⟩:=hc
   simp[eU]at hq
  ·simp at hc
 ·simp only[Option.map_eq_some_iff]at hc
  obtain⟨x',hx,rfl⟩:=hc
  simp[eU]at hq
 ·split at hc
  ·split at hc
   ·simp only[Option.some.injEq]at hc
    subst hc
    simp[eU]at hq
   ·cases hc
  ·cases hc
 ·split at hc
  ·split at hc
   ·split at hc
    ·simp only[Option.bind_eq_bind,Option.bind_eq_some_iff,Option.pure_def,Option.some.injEq]at hc
     obtain⟨x',hx,y',hy,rfl⟩:=hc
     simp[eU]at hq
    ·simp at hc
   ·simp at hc
  ·simp at hc
 ·simp at hc
theorem zQ {vo:gN} {mr:Option Row} (hc:rR P o.op=some vo) (hq:eU vo (dm env) g id=some (v,mr)) (S:gJ P hs D ι g w) (E:cI P w D ι env a):Mn P a o w D ι id v mr:=by
 unfold rR at hc
 split at hc
 ·rename_i ho
  simp only[Option.map_eq_some_iff]at hc
  obtain⟨x',hx,rfl⟩:=hc
  simp[eU]at hq;obtain⟨rfl,rfl⟩:=hq
  exact OV E (.inl ho) hx
 ·rename_i ho
  simp only[Option.map_eq_some_iff]at hc
  obtain⟨x',hx,rfl⟩:=hc
  simp[eU]at hq;obtain⟨rfl,rfl⟩:=hq
  exact OV E (.inr ho) hx
 ·rename_i ho
  simp only[Option.bind_eq_bind,Option.bind_eq_some_iff,Option.pure_def,Option.some.injEq]at hc
  obtain⟨c',h1,x',h2,y',h3,rfl⟩:=hc
  exact lR hq fun h=>Rf E ho h1 h2 h3 h
 ·rename_i ho
  simp only[Option.map_eq_some_iff]at hc
  obtain⟨z,hz,rfl⟩:=hc
  simp only[eU,Option.some.injEq,Prod.mk.injEq]at hq
  obtain⟨rfl,rfl⟩:=hq
  exact .inl (Ts ho hz)
 ·rename_i ho
  simp only[Option.map_eq_some_iff]at hc
  obtain⟨x',hx,rfl⟩:=hc
  simp only[eU,Option.map_eq_some_iff,Prod.mk.injEq]at hq
  obtain⟨cs,dC,rfl,rfl⟩:=hq
  exact .inl (Tq E ho hx dC)
 ·rename_i ho
  simp only[Option.bind_eq_bind,Option.bind_eq_some_iff,Option.pure_def,Option.some.injEq]at hc
  obtain⟨ag,h1,n,h2,x',h3,rfl⟩:=hc
  exact lR hq fun h=>Q9 S E ho h1 h2 h3 h
 ·rename_i ho
  simp only[Option.bind_eq_bind,Option.bind_eq_some_iff,Option.pure_def,Option.some.injEq]at hc
  obtain⟨n,h2,x',h3,y',h4,rfl⟩:=hc
  simp[eU]at hq
 ·rename_i ho
  simp only[Option.map_eq_some_iff]at hc
  obtain⟨x',hx,rfl⟩:=hc
  exact lR hq fun h=>TQ E ho hx h
 ·rename_i op t x y yt ho
  unfold wO at hc
  split at hc
  ·exact TC (neg:=false) ho hc hq E
  ·exact TC (neg:=true) ho hc hq E
  ·simp only[Option.bind_eq_bind,Option.bind_eq_some_iff,Option.pure_def,Option.some.injEq]at hc
   obtain⟨x',h3,y',h4,rfl⟩:=hc
   exact lR hq fun h=>T5 (left:=true) E ho h3 h4 h
  ·simp only[Option.bind_eq_bind,Option.bind_eq_some_iff,Option.pure_def,Option.some.injEq]at hc
   obtain⟨x',h3,y',h4,rfl⟩:=hc
   exact lR hq fun h=>T5 (left:=false) E ho h3 h4 h
  ·rename_i n1 n2 n3 n4
   split at hc
   ·simp only[Option.bind_eq_bind,Option.bind_eq_some_iff,Option.pure_def,Option.some.injEq]at hc
    obtain⟨x',h3,y',h4,rfl⟩:=hc
    exact lR hq fun h=>TP E ho n1 n2 h3 h4 h
   ·simp only[Option.bind_eq_bind,Option.bind_eq_some_iff,Option.pure_def,Option.some.injEq]at hc
    obtain⟨x',h3,y',h4,rfl⟩:=hc
    exact lR hq fun h=>Q0 E ho n1 n2 h3 h4 h
   ·simp at hc
 ·rename_i ho
  simp only[Option.map_eq_some_iff]at hc
  obtain⟨x',hx,rfl⟩:=hc
  exact lR hq fun h=>TZ E ho hx h
 ·rename_i ho
  simp only[Option.map_eq_some_iff]at hc
  obtain⟨x',hx,rfl⟩:=hc
  exact lR hq fun h=>TY E ho hx h
 ·rename_i ho
  split at hc
  ·rename_i q k h1 h2
   simp only[Option.map_eq_some_iff]at hc
   obtain⟨x',hx,rfl⟩:=hc
   exact lR hq fun h=>Q1 E ho h1 h2 hx h
  ·rename_i h1 h2
   simp only[Option.map_eq_some_iff]at hc
   obtain⟨x',hx,rfl⟩:=hc
   exact lR hq fun h=>by
    have hr:=dw E hx
    unfold ck at h
    split at h
    ·rename_i s hb
     simp at h;subst h
     rw[hb]at hr
     exact⟨.string s,by simp only[execOp,ho,fR hr,convert,Sem.run_bind,run_underlying h1,run_underlying h2,Result.andThen_ok,Sem.run_pure],.eZ _ _ (.str _)⟩
    ·simp at h
  ·simp at hc
 ·rename_i ho
  split at hc
  ·rename_i e ht
   simp only[Option.bind_eq_bind,Option.bind_eq_some_iff,Option.pure_def,Option.some.injEq]at hc
   obtain⟨n,h1,x',h2,lo,h3,hi,h4,rfl⟩:=hc
   exact lR hq fun h=>N4 S E ho ht h1 h2 h3 h4 h
  ·rename_i ht
   simp only[Option.bind_eq_bind,Option.bind_eq_some_iff,Option.pure_def,Option.some.injEq]at hc
   obtain⟨x',h2,lo,h3,hi,h4,rfl⟩:=hc
   exact lR hq fun h=>L1 E ho ht h2 h3 h4 h
  ·simp at hc
 ·rename_i ho
  split at hc
  ·rename_i fs sf
   split at hc
   ·rename_i f hf
    split at hc
    ·rename_i m hm
     simp only[Option.map_eq_some_iff]at hc
     obtain⟨x',hx,rfl⟩:=hc
     exact lR hq fun h=>N1 E ho sf hf hm hx h
    ·simp at hc
   ·simp at hc
  ·simp at hc
 ·rename_i ho
  split at hc
  ·rename_i fs sf
   split at hc
   ·rename_i f hf
    simp only[Option.bind_eq_bind,Option.bind_eq_some_iff,Option.pure_def,Option.some.injEq]at hc
    obtain⟨ag,h1,n,h2,x',h3,rfl⟩:=hc
    exact lR hq fun h=>N2 E ho sf hf h1 h2 h3 h
   ·simp at hc
  ·simp at hc
 ·rename_i ho
  split at hc
  ·rename_i e ht
   split at hc
   ·rename_i m hm
    simp only[Option.bind_eq_bind,Option.bind_eq_some_iff,Option.pure_def,Option.some.injEq]at hc
    obtain⟨x',h1,i',h2,rfl⟩:=hc
    exact lR hq fun h=>N3 S E ho ht hm h1 h2 h
   ·simp at hc
  ·rename_i len e ht
   split at hc
   ·rename_i m hm
    simp only[Option.bind_eq_bind,Option.bind_eq_some_iff,Option.pure_def,Option.some.injEq]at hc
    obtain⟨x',h1,i',h2,rfl⟩:=hc
    exact lR hq fun h=>Q4 E ho ht hm h1 h2 h
   ·simp at hc
  ·simp at hc
 ·rename_i ho
  split at hc
  ·rename_i ht
   simp only[Option.bind_eq_bind,Option.bind_eq_some_iff,Option.pure_def,Option.some.injEq]at hc
   obtain⟨x',h1,i',h2,rfl⟩:=hc
   exact lR hq fun h=>Q6 E ho ht h1 h2 h
  ·rename_i len e ht
   simp only[Option.bind_eq_bind,Option.bind_eq_some_iff,Option.pure_def,Option.some.injEq]at hc
   obtain⟨ag,h0,n,h1,x',h2,i',h3,rfl⟩:=hc
   exact lR hq fun h=>Q5 E ho ht h0 h1 h2 h3 h
  ·simp at hc
 ·rename_i ho
  simp only[Option.map_eq_some_iff]at hc
  obtain⟨x',hx,rfl⟩:=hc
  exact lR hq fun h=>IS E ho hx h
 ·rename_i ho
  split at hc
  ·rename_i fs sf
   split at hc
   ·rename_i z l hz hl
    split at hc
    ·rename_i dx
     simp only[Option.map_eq_some_iff]at hc
     obtain⟨q,M8,rfl⟩:=hc
     simp only[eU,Option.map_eq_some_iff,Prod.mk.injEq]at hq
     obtain⟨cs,dC,rfl,rfl⟩:=hq
     exact N0 E ho sf hz hl (fun f hf=>by
      rw[Array.all_eq_true_iff_forall_mem]at dx
      exact dx f (Array.mem_toList_iff.1 hf)) M8 dC
    ·simp at hc
   ·simp at hc
  ·rename_i len e ht
   split at hc
   ·rename_i z l n hz hl hn
    simp only[Option.some.injEq]at hc
    subst hc
    simp only[eU,Option.map_eq_some_iff,Prod.mk.injEq]at hq
    obtain⟨cs,dC,rfl,rfl⟩:=hq
    exact L0 E ho ht hz hl hn dC
   ·simp at hc
  ·simp at hc
 ·rename_i ho
  split at hc
  ·rename_i e ht
   split at hc
   ·rename_i sz z l h1 h2 h3
    split at hc
    ·rename_i hh
     simp only[Option.some.injEq]at hc
     subst hc
     simp only[eU,Option.map_eq_some_iff,Prod.mk.injEq]at hq
     obtain⟨rs,zm,rfl,rfl⟩:=hq
     exact .inl (KO E ho ht h1 h2 h3 hh.1 hh.2 (by rw[List.map_map]at zm;exact zm))
    ·simp at hc
   ·simp at hc
  ·simp at hc
 ·rename_i ho
  split at hc
  ·rename_i hh
   simp only[Option.map_eq_some_iff]at hc
   obtain⟨l,hl,rfl⟩:=hc
   simp[eU]at hq;obtain⟨rfl,rfl⟩:=hq
   exact Rb E ho hh.1 hh.2 hl
  ·split at hc
   ·rename_i hh
    simp only[Option.map_eq_some_iff]at hc
    obtain⟨l,hl,rfl⟩:=hc
    simp[eU]at hq;obtain⟨rfl,rfl⟩:=hq
    exact Rc E ho hh.1 hh.2 hl
   ·simp at hc
 ·rename_i ho
  split at hc
  ·rename_i e ht
   split at hc
   ·rename_i m z i h1 h2 h3
    split at hc
    ·rename_i hb
     simp only[Option.bind_eq_bind,Option.bind_eq_some_iff,Option.pure_def,Option.some.injEq]at hc
     obtain⟨l',h4,c',h5,rfl⟩:=hc
     simp only[eU,Option.map_eq_some_iff,Prod.mk.injEq]at hq
     obtain⟨⟨n,r⟩,hr,rfl,rfl⟩:=hq
     exact .inl (H4 E ho ht h1 h2 h3 hb h4 h5 hr)
    ·simp at hc
   ·simp at hc
  ·simp at hc
 ·rename_i ho
  exact QF ho hc hq S E
 ·rename_i ho
  split at hc
  ·rename_i dir e ht
   split at hc
   ·rename_i i hi
    split at hc
    ·rename_i hb
     simp only[Option.map_eq_some_iff]at hc
     obtain⟨x',hx,rfl⟩:=hc
     simp only[eU,Option.map_eq_some_iff,Prod.mk.injEq]at hq
     obtain⟨n,hn,rfl,rfl⟩:=hq
     exact .inr (.inr (Qx E ho ht hi hb hx hn))
    ·cases hc
   ·cases hc
  ·cases hc
 ·simp only[Option.bind_eq_bind,Option.bind_eq_some_iff,Option.pure_def,Option.some.injEq]at hc
  obtain⟨x',_,y',_,rfl⟩:=hc
  simp[eU]at hq
 ·split at hc
  ·split at hc
   ·simp only[Option.map_eq_some_iff]at hc
    obtain⟨x',_,rfl⟩:=hc
    simp[eU]at hq
   ·cases hc
  ·cases hc
 ·rename_i ho
  split at hc
  ·rename_i m z hm
   simp only[Option.some.injEq]at hc
   subst hc
   simp only[eU,List.map_nil,bH,Option.some.injEq,Prod.mk.injEq]at hq
   obtain⟨rfl,rfl⟩:=hq
   exact .inr (.inl (Tr ho))
  ·cases hc
 ·rename_i ho
  split at hc
  ·rename_i m z x' k' hm hx hk
   simp only[Option.some.injEq]at hc
   subst hc
   obtain⟨rfl,h⟩:=Ra (id:=id) S E ho hm hx hk hq
   exact h
  ·cases hc
 ·split at hc
  ·simp only[Option.some.injEq]at hc
   subst hc
   simp[eU]at hq
  ·cases hc
 ·split at hc
  ·simp only[Option.some.injEq]at hc
   subst hc
   simp[eU]at hq
  ·cases hc
 ·simp only[Option.some.injEq]at hc
  subst hc
  simp[eU]at hq
 ·simp only[Option.some.injEq]at hc
  subst hc
  simp[eU]at hq
 ·simp at hc
end
end Go.Proofs.YtgoelphibofcmaaGreat.V

namespace Go.Proofs.YtgoelphibofcmaaGreat.V
open Go.RowKit
variable {P:Program} {w w':World} {D D':Nat->Prop} {ι ι':Names}
def kY (ι:Names) (id:Id) (B:s9):Names:=fun i=>if i=id then some B else ι i
theorem eD (ι:Names) (id:Id) (B:s9):kY ι id B id=some B:=if_pos rfl
theorem fB {ι:Names} {id:Id} {B:s9} (h:ι id=none):∀i B',ι i=some B'->kY ι id B i=some B':=fun i B' hi=>by
 have:i≠id:=by rintro rfl;rw[h]at hi;cases hi
 rw[kY,if_neg this];exact hi
theorem gE {ι:Names} {id i:Id} {B:s9} (h:i≠id):kY ι id B i=ι i:=if_neg h
section
variable {g:Rows} {hs:Nat} {env:Env} {a:Act} {o:Oper} {id:Id} {v:AV}
theorem lT.frame {B:s9} {r:Row} (h:lT P w D ι B r) (hb:w'.heap[B.b]? =w.heap[B.b]?) (hr:∀a v,di P w D ι a v->di P w' D' ι' a v):lT P w' D' ι' B r:=
 ⟨h.sz,by obtain⟨c,T,h1,h2⟩:=h.yv;exact⟨c,T,hb.trans h1,h2⟩,h.fits,h.len,h.flat,fun i j cs a hi hj=>by
  obtain⟨v,h1,h2⟩:=h.at_ i j cs a hi hj
  exact⟨v,(World.cell?_of_block (a:=⟨B.b,i*r.sz+j,none⟩) hb).trans h1,hr _ _ h2⟩⟩
theorem ib.frame {B:s9} {r:Row} (h:ib P w D ι B r) (hb:w'.heap[B.b]? =w.heap[B.b]?) (hr:∀a v,di P w D ι a v->di P w' D' ι' a v):ib P w' D' ι' B r:=
 ⟨h.sz,h.flat,fun hk=>(h.row hk).frame hb hr,fun m hm=>by
  obtain⟨h1,es,c,h2,h3,h5,h4⟩:=h.map m hm
  refine⟨h1,es,c,hb.trans h2,h3,h5,fun i cs hi=>?_⟩
  obtain⟨e,kv,vv,q1,q2,q3,q4,q5⟩:=h4 i cs hi
  exact⟨e,kv,vv,q1,q2,q3,hr _ _ q4,hr _ _ q5⟩,fun c hc=>by
  obtain⟨h1,buf,s,q,h2,h3,h4⟩:=h.chan c hc
  refine⟨h1,buf,s,q,hb.trans h2,h3,fun i cs hi=>?_⟩
  obtain⟨a,u,q1,q2,q3⟩:=h4 i cs hi
  exact⟨a,u,q1,q2,hr _ _ q3⟩⟩
theorem gJ.kill (S:gJ P hs D ι g w) (i:Id):gJ P hs D ι (cC g i) w:=by
 refine⟨S.lo,S.dead,fun id r h=>?_,fun id kf r r' B B' h h' hw hB dM hb=>?_⟩
 ·unfold cC at h;split at h
  ·cases h
  ·exact S.row id r h
 ·unfold cC at h h'
  split at h
  ·cases h
  ·split at h'
   ·cases h'
   ·exact S.inj id kf r r' B B' h h' hw hB dM hb
theorem gJ.sub {g':Rows} (S:gJ P hs D ι g w) (h:∀id r,g' id=some r->g id=some r):gJ P hs D ι g' w:=
 ⟨S.lo,S.dead,fun id r hr=>S.row id r (h id r hr),fun id kf r r' B B' h1 h2=>S.inj id kf r r' B B' (h _ _ h1) (h _ _ h2)⟩
theorem Br {hid:List Nat} {n:Nat} {g:Rows}:∀id r,fW hid n g id=some r->g id=some r:=fun id r h=>by
 cases hid with
 |nil=>exact h
 |cons a l=>
  have e:fW (a::l) n g id=if (a::l).contains id.site=true/\id.bE=n then none else g id:=rfl
  rw[e]at h
  by_cases hc:(a::l).contains id.site=true/\id.bE=n
  ·rw[if_pos hc]at h;cases h
  ·rw[if_neg hc]at h;exact h
theorem gJ.stay (S:gJ P hs D ι g w) (hb:∀b,b<w.heap.size->w'.heap[b]? =w.heap[b]?) (hz:w.heap.size<=w'.heap.size) (hD:∀b,D b->D' b) (hD':∀b,D' b->b<w'.heap.size) (kJ:∀b,D' b->D b∨w.heap.size<=b) (hι:∀id B,ι id=some B->ι' id=some B):gJ P hs D' ι' g w':=by
 have hr:∀a v,di P w D ι a v->di P w' D' ι' a v:=fun a v h=>h.frame (fun b hd=>hb b (S.dead b hd)) hD hι
 have lt:∀{id r B},g id=some r->ι id=some B->B.b<w.heap.size:=fun {id r B} h hB=>by
  obtain⟨B',dM,R,_⟩:=S.row id r h
  rw[hB]at dM;injection dM with dM;subst dM
  exact R.lt
 refine⟨Nat.le_trans S.lo hz,hD',fun id r h=>?_,fun id kf r r' B B' h h' hw hB dM he=>?_⟩
 ·obtain⟨B,hB,R,h1,h2⟩:=S.row id r h
  exact⟨B,hι _ _ hB,R.frame (hb _ (lt h hB)) hr,h1,fun hw hd=>by
   rcases kJ _ hd with hd|hd
   ·exact h2 hw hd
   ·have:=lt h hB;omega⟩
 ·obtain⟨C,hC,_⟩:=S.row id r h
  obtain⟨C',uY,_⟩:=S.row kf r' h'
  have e1:=hι _ _ hC
  have e2:=hι _ _ uY
  rw[hB]at e1;injection e1 with e1;subst e1
  rw[dM]at e2;injection e2 with e2;subst e2
  exact S.inj id kf r r' _ _ h h' hw hC uY he
theorem Step.stay (S:gJ P hs D ι g w) (hb:∀b,b<w.heap.size->w'.heap[b]? =w.heap[b]?) (hz:w.heap.size<=w'.heap.size) (e1:w'.os=w.os) (e2:w'.tape=w.tape) (e3:w'.output=w.output) (hD:∀b,D b->D' b) (kJ:∀b,D' b->D b∨w.heap.size<=b) (hι:∀id B,ι id=some B->ι' id=some B):Step hs D ι w D' ι' w':=
 ⟨⟨e1,e2,e3,hz,fun k hk=>hb k (Nat.lt_of_lt_of_le hk S.lo)⟩,fun b hd=>hb b (S.dead b hd),hD,hι,fun b h=>(kJ b h).imp_right (Nat.le_trans S.lo)⟩
theorem gJ.alloc (S:gJ P hs D ι g w) {cells:Array Value} {T:TypeId} {r:Row} (hh:w'.heap=w.heap.push (.cells cells T (0,0))) (hn:ι id=none) (hw:r.w=true) (h1:r.rows.length*r.sz<=cells.size) (h2:∀cs∈r.rows,cs.length=r.sz) (h3:∀cs∈r.rows,∀a∈cs,a.cell=true)
  (h4:∀i j cs a,r.rows[i]? =some cs->cs[j]? =some a->∃x,cells[i*r.sz+j]? =some x/\di P w D ι a x):gJ P hs D (kY ι id ⟨w.heap.size,r.sz,cells.size,none⟩) (bQ g id r) w':=by
 have hb:∀b,b<w.heap.size->w'.heap[b]? =w.heap[b]? :=fun b ew=>by rw[hh,Array.getElem?_push,if_neg (by omega)]
 have hz:w.heap.size<=w'.heap.size:=by rw[hh];simp
 have S':=S.stay (D':=D) (ι':=kY ι id ⟨w.heap.size,r.sz,cells.size,none⟩) hb hz (fun _ h=>h) (fun b hd=>Nat.lt_of_lt_of_le (S.dead b hd) hz) (fun _ h=>.inl h) (fB hn)
 have hr:∀a v,di P w D ι a v->di P w' D (kY ι id ⟨w.heap.size,r.sz,cells.size,none⟩) a v:=fun a v h=>h.frame (fun b hd=>hb b (S.dead b hd)) (fun _ h=>h) (fB hn)
 have kJ:w'.heap[w.heap.size]? =some (.cells cells T (0,0)):=by rw[hh];simp
 have gone:g id=none:=by
  cases hg:g id with
  |none=>rfl
  |some q=>
   obtain⟨B,hB,_⟩:=S.row id q hg
   rw[hn]at hB;cases hB
 have lt:∀{i q B},g i=some q->ι i=some B->B.b<w.heap.size:=fun {i q B} h hB=>by
  obtain⟨B',dM,R,_⟩:=S.row i q h
  rw[hB]at dM;injection dM with dM;subst dM
  exact R.lt
 refine⟨S'.lo,S'.dead,fun i q h=>?_,fun i i' q q' B B' h h' Kp hB dM he=>?_⟩
 ·unfold bQ at h
  split at h
  ·rename_i e
   subst e
   injection h with h;subst h
   refine⟨_,eD _ _ _,lT.obj ⟨rfl,⟨cells,T,kJ,rfl⟩,h1,h2,h3,fun k j cs a hk hj=>?_⟩ rfl,fun _=>S.lo,fun _ hd=>?_⟩
   ·obtain⟨x,hx,hrx⟩:=h4 k j cs a hk hj
    exact⟨x,by simp[World.cell?,kJ,hx],hr _ _ hrx⟩
   ·have:=S.dead _ hd;simp at this
  ·exact S'.row i q h
 ·unfold bQ at h h'
  split at h
  ·rename_i e
   split at h'
   ·rename_i e';exact e.trans e'.symm
   ·exfalso
    rename_i e'
    subst e
    rw[eD]at hB;injection hB with hB;subst hB
    rw[gE e']at dM
    have:=lt h' dM
    simp at he;omega
  ·rename_i e
   split at h'
   ·exfalso
    rename_i e'
    subst e'
    rw[eD]at dM;injection dM with dM;subst dM
    rw[gE e]at hB
    have:=lt h hB
    simp at he;omega
   ·exact S'.inj i i' q q' B B' h h' Kp hB dM he
theorem gJ.put (S:gJ P hs D ι g w) {r r':Row} {B:s9} {cur cur':Array Value} {T:TypeId} (hid:g id=some r) (hw:r.w=true) (hB:ι id=some B) (hblk:w.heap[B.b]? =some (.cells cur T (0,0))) (fH:cur'.size=cur.size)
  (h0:r'.w=true) (h1:r'.sz=r.sz) (h2:r'.rows.length*r'.sz<=B.C) (h3:∀cs∈r'.rows,cs.length=r'.sz) (h4:∀cs∈r'.rows,∀a∈cs,a.cell=true)
  (h5:∀i j cs a,r'.rows[i]? =some cs->cs[j]? =some a->∃v,cur'[i*r.sz+j]? =some v/\di P w D ι a v):gJ P hs D ι (bQ g id r') (w.setRow B.b cur')/\Step hs D ι w D ι (w.setRow B.b cur'):=by
 obtain⟨B0,Cu,RO,kI,mE⟩:=S.row id r hid
 rw[hB]at Cu;injection Cu with Cu;subst Cu
 have yj:=RO.Ny hblk
 have R:=RO.row yj
 have hd:∀b,D b->(w.setRow B.b cur').heap[b]? =w.heap[b]? :=fun b hb=>setRow_other w B.b b cur' (by rintro rfl;exact mE hw hb)
 have hr:∀a v,di P w D ι a v->di P (w.setRow B.b cur') D ι a v:=fun a v h=>h.frame hd (fun _ h=>h) (fun _ _ h=>h)
 have hC:cur.size=B.C:=by
  obtain⟨c,T',h1,h2⟩:=R.yv
  rw[hblk]at h1;injection h1 with h1;injection h1 with h1 Px;subst h1;exact h2
 refine⟨⟨by simpa using S.lo,fun b hb=>by simpa using S.dead b hb,fun i q h=>?_,fun i i' q q' C C' h h' Kp hC uY he=>?_⟩,⟨⟨by simp,by simp,by simp,by simp,fun k hk=>setRow_other w B.b k cur' (by have:=kI hw;omega)⟩,hd,fun _ h=>h,fun _ _ h=>h,fun _ h=>.inl h⟩⟩
 ·unfold bQ at h
  split at h
  ·rename_i e
   subst e
   injection h with h;subst h
   refine⟨B,hB,lT.obj ⟨by rw[h1];exact R.sz,⟨cur',T,setRow_heap w B.b cur cur' T _ hblk,by rw[fH];exact hC⟩,h2,h3,h4,fun k j cs a hk hj=>?_⟩ yj,fun _=>kI hw,fun _=>mE hw⟩
   obtain⟨v,hv,lZ⟩:=h5 k j cs a hk hj
   exact⟨v,by rw[cell_setRow_same w B.b _ cur cur' T _ hblk,h1];exact hv,hr _ _ lZ⟩
  ·rename_i e
   obtain⟨C,hC,RC,k1,k2⟩:=S.row i q h
   refine⟨C,hC,RC.frame (setRow_other w B.b C.b cur' (fun Og=>e ?_)) hr,k1,k2⟩
   exact(S.inj id i r q B C hid h hw hB hC Og.symm).symm
 ·unfold bQ at h h'
  have get:∀j p,(if j=id then some r' else g j)=some p->∃p0,g j=some p0/\(p.w=true->p0.w=true):=fun j p hp=>by
   split at hp
   ·rename_i e;subst e;injection hp with hp;subst hp;exact⟨r,hid,fun _=>hw⟩
   ·exact⟨p,hp,fun h=>h⟩
  obtain⟨p,hp,RD⟩:=get _ _ h
  obtain⟨p',Qa,_⟩:=get _ _ h'
  exact S.inj i i' p p' C C' hp Qa (RD Kp) hC uY he
theorem gJ.rename (S:gJ P hs D ι g w) {i:Id} {r:Row} {B:s9} (hi:g i=some r) (hw:r.w=true) (hB:ι i=some B) (hn:ι id=none):gJ P hs D (kY ι id B) (bQ (cC g i) id r) w:=by
 have S':=S.stay (w':=w) (D':=D) (ι':=kY ι id B) (fun _ _=>rfl) (Nat.le_refl _) (fun _ h=>h) S.dead (fun _ h=>.inl h) (fB hn)
 have gM:i≠id:=by rintro rfl;rw[hn]at hB;cases hB
 obtain⟨B1,BD,R,k1,k2⟩:=S'.row i r hi
 rw[gE gM,hB]at BD;injection BD with BD;subst BD
 have get:∀j p,bQ (cC g i) id r j=some p->(j=id/\p=r)∨(j≠id/\j≠i/\g j=some p):=fun j p hp=>by
  unfold bQ cC at hp
  split at hp
  ·rename_i e;injection hp with hp;exact .inl ⟨e,hp.symm⟩
  ·rename_i e
   split at hp
   ·cases hp
   ·rename_i e';exact .inr ⟨e,e',hp⟩
 refine⟨S.lo,S.dead,fun j p h=>?_,fun j j' p p' C C' h h' RD hC uY he=>?_⟩
 ·rcases get j p h with⟨rfl,rfl⟩|⟨_,_,hp⟩
  ·exact⟨B,eD _ _ _,R,k1,k2⟩
  ·exact S'.row j p hp
 ·rcases get j p h with⟨rfl,rfl⟩|⟨q1,q2,hp⟩
  ·rcases get j' p' h' with⟨rfl,rfl⟩|⟨q1',q2',Qa⟩
   ·rfl
   ·exfalso
    rw[eD]at hC;injection hC with hC;subst hC
    rw[gE q1']at uY
    exact q2' (S.inj i j' p p' B C' hi Qa hw hB uY he).symm
  ·rcases get j' p' h' with⟨rfl,rfl⟩|⟨q1',q2',Qa⟩
   ·exfalso
    rw[eD]at uY;injection uY with uY;subst uY
    rw[gE q1]at hC
    exact q2 (S.inj j i p p' C B hp hi RD hC hB he)
   ·rw[gE q1]at hC
    rw[gE q1']at uY
    exact S.inj j j' p p' C C' hp Qa RD hC uY he
def D6 (P:Program) (hs:Nat) (a:Act) (o:Oper) (w:World) (D:Nat->Prop) (ι:Names) (id:Id) (v:AV) (g':Rows):Prop:=
 ∃u w' ι',((execOp a.eval o).run P w=.ok (.value u) w'∨(execOp a.eval o).run P w=.ok .skip w'/\u=undef)/\Step hs D ι w D ι' w'/\gJ P hs D ι' g' w'/\di P w' D ι' v u/\∀i,i≠id->ι' i=ι i
theorem Dn {xs:List AV} {vs:Array Value} (h:fF P w D ι xs vs) (hf:∀a∈xs,a.cell=true):∀v∈vs.toList,v.oneCell'=true:=by
 intro v hv
 obtain⟨j,hj,rfl⟩:=List.getElem_of_mem hv
 have Md:j<xs.length:=by rw[<-h.1];simpa using hj
 obtain⟨u,hu,hr⟩:=h.2 j _ (List.getElem?_eq_getElem Md)
 have hc:=hr.B9 (hf _ (List.getElem_mem Md))
 have:vs.toList[j]=u:=by
  have:vs.toList[j]? =some u:=by simpa using hu
  rw[List.getElem?_eq_getElem hj]at this;injection this
 rw[this]
 cases u<;>simp_all [Value.oneCell']
theorem j9 {i j n m:Nat} (h:i<n) (hj:j<m):i*m+j<n*m:=by
 have:(i+1)*m<=n*m:=Nat.mul_le_mul_right _ h
 rw[Nat.add_mul,Nat.one_mul]at this;omega
theorem lT.cur {B:s9} {r:Row} (R:lT P w D ι B r):∃cur T,w.heap[B.b]? =some (.cells cur T (0,0))/\cur.size=B.C/\∀i j cs a,r.rows[i]? =some cs->cs[j]? =some a->∃v,cur[i*r.sz+j]? =some v/\di P w D ι a v:=by
 obtain⟨cur,T,h1,h2⟩:=R.yv
 refine⟨cur,T,h1,h2,fun i j cs a hi hj=>?_⟩
 obtain⟨v,hv,hr⟩:=R.at_ i j cs a hi hj
 exact⟨v,by simpa[World.cell?,h1]using hv,hr⟩
theorem ME {t:TypeId} {n:Nat} {x y:Operand} {x' y':O} {g':Rows} (S:gJ P hs D ι g w) (E:cI P w D ι env a) (ho:o.op=.store t x y) (hn:eE P t=some n) (hx:cO P x=some x') (hy:cO P y=some y')
  (hv:cj g n (dm env y') (dm env x')=some g'):D6 P hs a o w D ι id .undef g':=by
 have rx:=dw E hx
 have ry:=dw E hy
 unfold cj at hv
 split at hv
 ·rename_i i k off hp
  rw[hp]at rx
  simp only[Option.bind_eq_some_iff]at hv
  obtain⟨r,hg,cs,dC,hv⟩:=hv
  split at hv
  ·rename_i hc
   obtain⟨c1,c2,c3,c4⟩:=hc
   simp at hv;subst hv
   obtain⟨B,he,hB,hk⟩:=iS rx
   obtain⟨B',dM,R,kI,mE⟩:=S.row i r hg
   rw[hB]at dM;injection dM with dM;subst dM
   replace R:=R.row hk
   obtain⟨cur,T,hblk,hC,xg⟩:=R.cur
   have hL:=rN ry c3
   have h1:=Dn hL (List.all_eq_true.1 c3)
   have Te:(a.eval y).cells.size=n:=by rw[hL.1,c2]
   have kT:=(List.getElem?_eq_some_iff.1 dC).1
   have hlen:=R.len cs (List.mem_of_getElem? dC)
   have hbound:k*r.sz+r.sz<=r.rows.length*r.sz:=by
    have:(k+1)*r.sz<=r.rows.length*r.sz:=Nat.mul_le_mul_right _ kT
    rwa [Nat.add_mul,Nat.one_mul]at this
   have hf:=R.fits
   have dJ:=run_storeCells_at P B.b (k*B.sz+off) T (a.eval y).cells.toList 0 cur w hblk (by rw[R.sz];simp only[Array.length_toList];omega) h1
   simp only[Nat.add_zero,Array.length_toList]at dJ
   have xo:=S.put (r':={r with rows:=r.rows.set k (cP cs off (dm env y').cells)}) hg c1 hB hblk (cur':=(cur.toList.take (k*B.sz+off)++(a.eval y).cells.toList++cur.toList.drop (k*B.sz+off+(a.eval y).cells.size)).toArray)
    (by rw[R.sz];simp;omega) c1 rfl (by simpa using R.fits) (fun c VP=>by
     rcases List.mem_or_eq_of_mem_set VP with h|rfl
     ·exact R.len c h
     ·simp[cP];omega) (fun c VP b hb=>by
     rcases List.mem_or_eq_of_mem_set VP with h|rfl
     ·exact R.flat c h b hb
     ·unfold cP at hb
      rcases List.mem_append.1 hb with hb|hb
      ·rcases List.mem_append.1 hb with hb|hb
       ·exact R.flat cs (List.mem_of_getElem? dC) b (List.mem_of_mem_take hb)
       ·exact List.all_eq_true.1 c3 b hb
      ·exact R.flat cs (List.mem_of_getElem? dC) b (List.mem_of_mem_drop hb)) (fun i2 j c b vV hj=>by
     rw[R.sz]
     simp only[List.getElem?_toArray]
     by_cases zk:i2=k
     ·subst zk
      rw[List.getElem?_set_self kT]at vV
      injection vV with vV;subst vV
      unfold cP at hj
      by_cases hjo:j<off
      ·rw[List.append_assoc,List.getElem?_append_left (by simp;omega),List.getElem?_take,if_pos hjo]at hj
       rw[List.append_assoc,List.getElem?_append_left (by simp;omega),List.getElem?_take,if_pos (by omega)]
       simpa using xg _ _ _ _ dC hj
      ·by_cases iK:j<off+n
       ·rw[List.append_assoc,List.getElem?_append_right (by simp;omega),List.getElem?_append_left (by simp;omega)]at hj
        rw[List.append_assoc,List.getElem?_append_right (by simp;omega),List.getElem?_append_left (by simp;omega)]
        simp only[List.length_take]at hj ⊢
        rw[show j-min off cs.length=j-off by omega]at hj
        rw[show i2*r.sz+j-min (i2*r.sz+off) cur.toList.length=j-off by simp;omega]
        simpa using hL.2 _ _ hj
       ·rw[List.getElem?_append_right (by simp;omega)]at hj
        rw[List.getElem?_append_right (by simp;omega)]
        simp only[List.length_append,List.length_take,List.getElem?_drop,Array.length_toList]at hj ⊢
        rw[show off+(dm env y').cells.length+(j-(min off cs.length+(dm env y').cells.length))=j by omega]at hj
        rw[show i2*r.sz+off+(a.eval y).cells.size+(i2*r.sz+j-(min (i2*r.sz+off) cur.size+(a.eval y).cells.size))=i2*r.sz+j by omega]
        simpa using xg _ _ _ _ dC hj
     ·rw[List.getElem?_set_ne (fun e=>zk e.symm)]at vV
      have hi2l:=(List.getElem?_eq_some_iff.1 vV).1
      have iA:j<r.sz:=by rw[<-R.len c (List.mem_of_getElem? vV)];exact(List.getElem?_eq_some_iff.1 hj).1
      have:=xg _ _ _ _ vV hj
      rcases Nat.lt_or_gt_of_ne zk with ew|MV
      ·have h2:i2*r.sz+j<k*r.sz:=j9 ew iA
       rw[List.append_assoc,List.getElem?_append_left (by simp;omega),List.getElem?_take,if_pos (by omega)]
       simpa using this
      ·have h2:k*r.sz+r.sz<=i2*r.sz:=by
        have:(k+1)*r.sz<=i2*r.sz:=Nat.mul_le_mul_right _ MV
        rwa [Nat.add_mul,Nat.one_mul]at this
       rw[List.getElem?_append_right (by simp;omega)]
       simp only[List.length_append,List.length_take,List.getElem?_drop,Array.length_toList]
       rw[show k*r.sz+off+(a.eval y).cells.size+(i2*r.sz+j-(min (k*r.sz+off) cur.size+(a.eval y).cells.size))=i2*r.sz+j by omega]
       simpa using this)
   refine⟨undef,_,ι,.inr ⟨?_,rfl⟩,xo.2,xo.1,di.undef,fun _ _=>rfl⟩
   simp only[execOp,ho,he,Instr.storeAt,Instr.sureAddr,storeVar,Sem.run_bind,Sem.run_pure,Result.andThen_ok,run_sizeOf hn,Te,ne_eq,not_true_eq_false,if_false,dJ]
  ·simp at hv
 ·simp at hv
end
end Go.Proofs.YtgoelphibofcmaaGreat.V

namespace Go.Proofs.YtgoelphibofcmaaGreat.V
open Go.RowKit
variable {P:Program} {w w':World} {D D':Nat->Prop} {ι ι':Names}
section
variable {g:Rows} {hs:Nat} {env:Env} {a:Act} {o:Oper} {id:Id} {v:AV}
theorem sN (S:gJ P hs D ι g w) {y:AV} {u:Value} {ys:List (List AV)} {sz:Nat} (hr:di P w D ι y u) (hy:bx g y=some ys) (hl:∀c∈ys,c.length=sz) (hf:∀c∈ys,∀b∈c,b.cell=true):
  ∃A c,u=.slice A ys.length c/\(ys=[]∨∃b o,∃news:List Value,A=some ⟨b,o,none⟩/\news.length=ys.length*sz/\(∀j v,news[j]? =some v->w.cell? ⟨b,o+j,none⟩=some v)/\fF P w D ι ys.flatten news.toArray/\∀v∈news,v.oneCell'=true):=by
 have fin:∀b o,ys≠[]->(∀i j cs x,ys[i]? =some cs->cs[j]? =some x->∃v,w.cell? ⟨b,o+(i*sz+j),none⟩=some v/\di P w D ι x v)->
   ∃news:List Value,news.length=ys.length*sz/\(∀j v,news[j]? =some v->w.cell? ⟨b,o+j,none⟩=some v)/\fF P w D ι ys.flatten news.toArray/\∀v∈news,v.oneCell'=true:=by
  intro b o _ h
  have hlen:=JU hl
  have at_:∀k,k<ys.length*sz->∃x,ys.flatten[k]? =some x/\∃v,w.cell? ⟨b,o+k,none⟩=some v/\di P w D ι x v:=by
   intro k hk
   have kK:0<sz:=by
    rcases Nat.eq_zero_or_pos sz with h0|h0
    ·subst h0;simp at hk
    ·exact h0
   have hi:k / sz<ys.length:=Nat.div_lt_of_lt_mul (by rw[Nat.mul_comm];exact hk)
   have hj:k % sz<sz:=Nat.mod_lt _ kK
   have dC:=List.getElem?_eq_getElem hi
   have iA:k % sz<ys[k / sz].length:=by rw[hl _ (List.getElem_mem hi)];exact hj
   have hx:=List.getElem?_eq_getElem iA
   have e:k / sz*sz+k % sz=k:=by rw[Nat.mul_comm];exact Nat.div_add_mod _ _
   refine⟨_,by rw[<-flat_get hl dC hx,e],?_⟩
   obtain⟨v,hv,lZ⟩:=h _ _ _ _ dC hx
   rw[e]at hv
   exact⟨v,hv,lZ⟩
  let news:=(List.range (ys.length*sz)).map fun k=>(w.cell? ⟨b,o+k,none⟩).getD undef
  have hn:∀k,k<ys.length*sz->∀v,w.cell? ⟨b,o+k,none⟩=some v->news[k]? =some v:=fun k hk v hv=>by
   simp only[news,List.getElem?_map,List.getElem?_range hk,Option.map_some,hv,Option.getD_some]
  have hR:fF P w D ι ys.flatten news.toArray:=⟨by simp[news,hlen],fun j x hx=>by
   have iA:=(List.getElem?_eq_some_iff.1 hx).1
   rw[hlen]at iA
   obtain⟨x',yl,v,hv,lZ⟩:=at_ j iA
   rw[hx]at yl;injection yl with yl;subst yl
   exact⟨v,by simpa using hn j iA v hv,lZ⟩⟩
  refine⟨news,by simp[news],fun j v hj=>?_,hR,?_⟩
  ·have iA:j<ys.length*sz:=by have:=(List.getElem?_eq_some_iff.1 hj).1;simpa[news]using this
   obtain⟨x,_,v',oI,_⟩:=at_ j iA
   rw[hn j iA v' oI]at hj
   injection hj with hj
   rw[<-hj];exact oI
  ·have:=Dn hR (fun x hx=>by
    obtain⟨c,hc,WH⟩:=List.mem_flatten.1 hx
    exact hf c hc x WH)
   simpa using this
 unfold bx at hy
 split at hy
 ·simp at hy;subst hy
  exact⟨none,0,kD hr,.inl rfl⟩
 ·rename_i rows
  simp at hy;subst hy
  obtain⟨A,c,he,_,_,h3⟩:=xP hr
  refine⟨A,c,he,?_⟩
  rcases h3 with h3|⟨b,oo,sz',vs,rfl,hD,Mf,_,hc,hi⟩
  ·exact .inl h3
  ·by_cases h0:rows=[]
   ·exact .inl h0
   ·have CD:sz'=sz:=by
     cases rows with
     |nil=>exact(h0 rfl).elim
     |cons c r=>rw[<-Mf c (by simp),hl c (by simp)]
    subst CD
    obtain⟨news,q1,q2,q3,q4⟩:=fin b oo h0 (fun i j cs x dC hx=>⟨_,hc i j (List.getElem?_eq_some_iff.1 dC).1 (by rw[<-Mf cs (List.mem_of_getElem? dC)];exact(List.getElem?_eq_some_iff.1 hx).1),.eZ _ _ (hi i j cs x dC hx)⟩)
    exact .inr ⟨b,oo,news,rfl,q1,q2,q3,q4⟩
 ·rename_i i off len
  simp only[Option.bind_eq_some_iff]at hy
  obtain⟨r,hg,hy⟩:=hy
  split at hy
  ·rename_i hle
   simp at hy;subst hy
   obtain⟨oo,cap,B,he,hB,h1,h2,h3,h4,hk⟩:=ji hr
   obtain⟨B',dM,R,_,_⟩:=S.row i r hg
   rw[hB]at dM;injection dM with dM;subst dM
   replace R:=R.row hk
   have hlen:((r.rows.drop off).take len).length=len:=by simp;omega
   refine⟨some ⟨B.b,oo,none⟩,cap,by rw[hlen];exact he,?_⟩
   by_cases h0:(r.rows.drop off).take len=[]
   ·exact .inl h0
   ·have CD:r.sz=sz:=by
     cases hq:(r.rows.drop off).take len with
     |nil=>exact(h0 hq).elim
     |cons c q=>
      have hm:c∈(r.rows.drop off).take len:=by rw[hq];simp
      rw[<-hl c hm,R.len c (List.mem_of_mem_drop (List.mem_of_mem_take hm))]
    have hlp:0<len:=by rw[<-hlen];exact List.length_pos_iff.2 h0
    have DQ:oo=off*B.sz:=by rcases h2 with h2|h2<;>omega
    obtain⟨news,q1,q2,q3,q4⟩:=fin B.b oo h0 (fun i2 j cs x dC hx=>by
     rw[List.getElem?_take]at dC
     split at dC
     ·rw[List.getElem?_drop]at dC
      obtain⟨v,hv,lZ⟩:=R.at_ _ _ _ _ dC hx
      refine⟨v,?_,lZ⟩
      rw[DQ,R.sz,<-CD]
      rw[Nat.add_mul]at hv
      rw[<-Nat.add_assoc]
      exact hv
     ·simp at dC)
    exact .inr ⟨B.b,oo,news,rfl,q1,q2,q3,q4⟩
  ·simp at hy
 ·simp at hy
theorem pH {t ty e:TypeId} {i:TypeInfo} (ht:P.underlying t=some (.slice e)) (hi:P.info? e=some i) (A:Option Addr) (n c:Nat) (hn:n<=c) (B:Option Addr) (d:Nat):
  (Builtin.append_ #[t,t] ty #[.slice A n c,.slice B 0 d]).run P w=.ok (.slice A n c) w:=by
 have hf:(Builtin.firstCells i.size 0 (.slice B 0 d)).run P w=.ok #[] w:=by
  cases B<;>simp[Builtin.firstCells,loadCells,loadCellsFrom]
 cases A with
 |none=>simp[Builtin.append_,run_underlying ht,sizeOf,typeInfo,hi,Builtin.lenOf,hn,hf]
 |some A=>simp[Builtin.append_,run_underlying ht,sizeOf,typeInfo,hi,Builtin.lenOf,hn,hf,storeCells]
theorem yT {t ty e T:TypeId} {i:TypeInfo} (ht:P.underlying t=some (.slice e)) (hi:P.info? e=some i) (b sQ FF:Nat) (cur:Array Value) (hg:w.heap[b]? =some (.cells cur T (0,0)))
  (x:Addr) (m c:Nat) (news:List Value) (hl:news.length=m*i.size) (SV:∀j u,news[j]? =some u->w.cell? (x.add j)=some u) (h1:∀u∈news,u.oneCell'=true)
  (gq:sQ+m<=FF) (rj:sQ*i.size+news.length<=cur.size):
  (Builtin.append_ #[t,t] ty #[.slice (some ⟨b,0,none⟩) sQ FF,.slice (some x) m c]).run P w=
   .ok (.slice (some ⟨b,0,none⟩) (sQ+m) FF) (w.setRow b (cur.toList.take (sQ*i.size)++news++cur.toList.drop (sQ*i.size+news.length)).toArray):=by
 have hf:=run_firstCells_some (P:=P) w i.size m x m c news hl SV
 have dJ:=run_storeCells_at P b (sQ*i.size) T news 0 cur w hg (by simpa using rj) h1
 simp only[Nat.add_zero]at dJ
 simp[Builtin.append_,run_underlying ht,sizeOf,typeInfo,hi,Builtin.lenOf,gq,hf,kG,dJ]
theorem Cs (w:World) (Ia zI:Nat) (e:TypeId) (h:Ia<=dG):Ia<=grownCap w Ia zI e/\grownCap w Ia zI e<=maxLen:=by
 unfold dG at h
 simp only[grownCap,Question.cut,maxLen]
 have:=Nat.mod_lt (w.tape w.drawn (.appendCap Ia zI e)) (show 0<2 ^ 63-Ia by omega)
 omega
theorem gu {x y:Operand} {t:TypeId} {u:Value} (ho:o.op=.call {callee:=.builtin .append,args:= #[x,y],argTypes:= #[t,t]}) (h:(Builtin.append_ #[t,t] o.type #[a.eval x,a.eval y]).run P w=.ok u w'):(execOp a.eval o).run P w=.ok (.value u) w':=by
 simp only[execOp,ho,resolve,Sem.run_bind,Sem.run_pure,Result.andThen_ok,invoke,builtin]
 simp only[List.map_toArray,List.map_cons,List.map_nil]
 rw[h];rfl
theorem Dv {T:TypeId} (S:gJ P hs D ι g w) (cells:Array Value) (hn:ι id=none) (B:s9):Step hs D ι w D (kY ι id B) (w.drew.alloc (.cells cells T)):=
 Step.stay S (fun k hk=>by show(w.heap.push _)[k]? = _;rw[Array.getElem?_push,if_neg (by omega)]) (by show _<=(w.heap.push _).size;simp) rfl rfl rfl (fun _ h=>h) (fun _ h=>.inl h) (fB hn)
theorem JH {x y:Operand} {x' y':O} {t e:TypeId} {m:Nat} {z:List K} {i:TypeInfo} {ys:List (List AV)} {g':Rows} (S:gJ P hs D ι g w) (E:cI P w D ι env a) (hn:ι id=none) (ho:o.op=.call {callee:=.builtin .append,args:= #[x,y],argTypes:= #[t,t]})
  (ht:P.underlying t=some (.slice e)) (fH:eE P e=some (m+1)) (hz:jV P e=some z) (hi:P.info? e=some i) (hby:i.bytes<=32768) (hx:cO P x=some x') (hy:cO P y=some y') (Gy:bx g (dm env y')=some ys)
  (hv:bd g id (m+1) (dm env x') ys=some (v,g')):D6 P hs a o w D ι id v g':=by
 have rx:=dw E hx
 have ry:=dw E hy
 obtain⟨it,zv,rS,mW,RP,hm,Gz⟩:=ke hz
 rw[hi]at rS;injection rS with rS;subst rS
 have jS:i.size=m+1:=by simpa[eE,hi]using fH
 have fits:∀n,n<=dG->n*i.bytes<=140737488355328:=fun n h=>by
  unfold dG at h
  have:=Nat.mul_le_mul h hby
  omega
 have e63:∀n,n<=dG->(n:Int)<=9223372036854775807:=fun n h=>by unfold dG at h;omega
 have same:∀(w1:World) (cells:Array Value),w1=w.drew.alloc (.cells cells e)->w1.heap=w.heap.push (.cells cells e (0,0)):=fun w1 cells h=>by subst h;rfl
 have RZ:∀l:List (List AV),(l.all fun c=>c.length==m+1&&c.all AV.cell)=true->(∀c∈l,c.length=m+1)/\∀c∈l,∀b∈c,b.cell=true:=fun l h=>by
  rw[List.all_eq_true]at h
  refine⟨fun c hc=>?_,fun c hc b hb=>?_⟩
  ·have:=h c hc;simp at this;exact this.1
  ·have:=h c hc;simp at this;exact this.2 b hb
 unfold bd at hv
 split at hv
 ·rename_i hb
  rw[hb]at rx
  have ex:=kD rx
  split at hv
  ·simp at hv
   obtain⟨rfl,rfl⟩:=hv
   obtain⟨A,c,ey,_⟩:=sN (sz:=m+1) S ry Gy (fun c h=>by cases h) (fun c h=>by cases h)
   refine⟨_,w,ι,.inl (gu ho (by rw[ex,ey];exact pH ht hi none 0 0 (Nat.le_refl _) A c)),Step.refl _ _ _ _,S,.eZ _ _ .bD,fun _ _=>rfl⟩
  ·rename_i y0 yr
   split at hv
   ·rename_i hc
    simp only[Option.some.injEq,Prod.mk.injEq]at hv
    obtain⟨rfl,rfl⟩:=hv
    obtain⟨hl,hf⟩:=RZ _ hc.2
    obtain⟨A,c,ey,h2⟩:=sN (sz:=m+1) S ry Gy hl hf
    rcases h2 with h2|⟨b,oo,news,rfl,q1,q2,q3,q4⟩
    ·cases h2
    have gy:=run_append_nil (P:=P) w t o.type e i zv ht hi mW ⟨b,oo,none⟩ (y0::yr).length c news (by rw[jS];exact q1) (fun j v hj=>by rw[kG];exact q2 j v hj) (by simp) (e63 _ hc.1) (by have:=fits _ hc.1;omega)
    obtain⟨g1,g2⟩:=Cs w (y0::yr).length 0 e hc.1
    have dC:(news.toArray++Builtin.zeroCells zv.cells (grownCap w (y0::yr).length 0 e-(y0::yr).length)).size=grownCap w (y0::yr).length 0 e*(m+1):=by
     rw[Array.size_append,size_zeroCells,RP,jS]
     simp only[List.size_toArray,q1]
     rw[<-Nat.add_mul];congr 1;omega
    have S1:=S.alloc (w':=w.drew.alloc (.cells (news.toArray++Builtin.zeroCells zv.cells (grownCap w (y0::yr).length 0 e-(y0::yr).length)) e)) (r:=⟨true,m+1,y0::yr⟩) rfl hn rfl (by rw[dC];exact Nat.mul_le_mul_right _ g1) hl hf
     (fun k j cs b2 hk hj=>by
      obtain⟨u,hu,yL⟩:=q3.2 _ _ (flat_get hl hk hj)
      refine⟨u,?_,yL⟩
      have ew:=(Array.getElem?_eq_some_iff.1 hu).1
      dsimp only
      rw[Array.getElem?_append_left ew];exact hu)
    have dJ:=Dv (T:=e) S (news.toArray++Builtin.zeroCells zv.cells (grownCap w (y0::yr).length 0 e-(y0::yr).length)) hn ⟨w.heap.size,m+1,(news.toArray++Builtin.zeroCells zv.cells (grownCap w (y0::yr).length 0 e-(y0::yr).length)).size,none⟩
    refine⟨_,_,_,.inl (gu ho (by rw[ex,ey];exact gy)),dJ,S1,?_,fun _ h=>gE h⟩
    refine .own _ _ _ _ _ _ (eD _ _ _) rfl g1 (.inr (by simp)) ?_ g2
    dsimp only;rw[dC];simp
   ·simp at hv
 ·rename_i i0 len hb
  rw[hb]at rx
  simp only[Option.bind_eq_some_iff]at hv
  obtain⟨r,hg,hv⟩:=hv
  split at hv
  ·rename_i hc
   obtain⟨c1,c2,c3,c4,c5⟩:=hc
   simp only[Option.some.injEq,Prod.mk.injEq]at hv
   obtain⟨rfl,rfl⟩:=hv
   obtain⟨hl,hf⟩:=RZ _ c5
   obtain⟨A,c,ey,h2⟩:=sN (sz:=m+1) S ry Gy hl hf
   obtain⟨oo,cap,B,ex,hB,h1,DQ,h3,h4,hk⟩:=ji rx
   obtain⟨B',dM,R,kI,mE⟩:=S.row _ _ hg
   rw[hB]at dM;injection dM with dM;subst dM
   replace R:=R.row hk
   have JY:B.sz=m+1:=R.sz.trans c2
   have AL:∀cs∈r.rows++ys,cs.length=m+1:=fun cs dC=>by
    rcases List.mem_append.1 dC with h|h
    ·rw[<-c2];exact R.len cs h
    ·exact hl cs h
   have Od:∀cs∈r.rows++ys,∀b∈cs,b.cell=true:=fun cs dC=>by
    rcases List.mem_append.1 dC with h|h
    ·exact R.flat cs h
    ·exact hf cs h
   rcases h2 with rfl|⟨yb,yo,news,rfl,q1,q2,q3,q4⟩
   ·have HH:=S.rename hg c1 hB hn
    refine⟨_,w,kY ι id B,.inl (gu ho (by rw[ex,ey];exact pH ht hi _ _ _ h1 A c)),⟨Below.refl _ _,fun _ _=>rfl,fun _ h=>h,fB hn,fun _ h=>.inl h⟩,?_,?_,fun _ h=>gE h⟩
    ·have:(⟨true,m+1,r.rows++[]⟩:Row)=r:=by cases r;simp_all
     rw[this];exact HH
    ·simp only[List.length_nil,Nat.add_zero]
     exact .own _ _ _ _ _ B (eD _ _ _) hk h1 DQ h3 h4
   ·obtain⟨cur,T,hblk,hC,xg⟩:=R.cur
    by_cases gq:len+ys.length<=cap
    ·have UG:ys≠[]->oo=0:=fun h=>by
      rcases DQ with DQ|DQ
      ·have:=List.length_pos_iff.2 h;omega
      ·simpa using DQ
     by_cases hy0:ys=[]
     ·subst hy0
      have HH:=S.rename hg c1 hB hn
      refine⟨_,w,kY ι id B,.inl (gu ho (by rw[ex,ey];exact pH ht hi _ _ _ h1 _ c)),⟨Below.refl _ _,fun _ _=>rfl,fun _ h=>h,fB hn,fun _ h=>.inl h⟩,?_,?_,fun _ h=>gE h⟩
      ·have:(⟨true,m+1,r.rows++[]⟩:Row)=r:=by cases r;simp_all
       rw[this];exact HH
      ·simp only[List.length_nil,Nat.add_zero]
       exact .own _ _ _ _ _ B (eD _ _ _) hk h1 DQ h3 h4
     have ho0:=UG hy0
     subst ho0
     have rj:len*i.size+news.length<=cur.size:=by
      rw[jS,q1,hC,<-Nat.add_mul]
      refine Nat.le_trans ?_ h3
      rw[JY,Nat.zero_add]
      exact Nat.mul_le_mul_right _ gq
     have gy:=yT (ty:=o.type) ht hi B.b len cap cur hblk ⟨yb,yo,none⟩ ys.length c news (by rw[jS];exact q1) (fun j v hj=>by rw[kG];exact q2 j v hj) q4 gq rj
     have nG:cur.toList.length=cur.size:=Array.length_toList
     simp only[jS]at gy rj
     obtain⟨P1,P2⟩:=S.put (r':=⟨true,m+1,r.rows++ys⟩) hg c1 hB hblk (cur':=(cur.toList.take (len*(m+1))++news++cur.toList.drop (len*(m+1)+news.length)).toArray) (by simp only[List.size_toArray,List.length_append,List.length_take,List.length_drop,nG];omega) rfl c2.symm
      (by dsimp only;rw[List.length_append,<-c3,<-JY];refine Nat.le_trans (Nat.mul_le_mul_right _ gq) (Nat.le_trans (by simp) h3)) AL Od (fun k j cs b2 hk hj=>by
       simp only[List.getElem?_toArray]
       have iA:j<m+1:=by rw[<-AL cs (List.mem_of_getElem? hk)];exact(List.getElem?_eq_some_iff.1 hj).1
       rw[c2]
       by_cases kT:k<r.rows.length
       ·rw[List.getElem?_append_left kT]at hk
        have h2:k*(m+1)+j<len*(m+1):=j9 (by omega) iA
        rw[List.append_assoc,List.getElem?_append_left (by simp only[List.length_take,nG];omega),List.getElem?_take,if_pos h2]
        have:=xg k j cs b2 hk hj
        rw[c2]at this;simpa using this
       ·rw[List.getElem?_append_right (by omega)]at hk
        have xk:=(List.getElem?_eq_some_iff.1 hk).1
        have rl:len*(m+1)<=k*(m+1):=Nat.mul_le_mul_right _ (by omega)
        have rq:k*(m+1)+j-len*(m+1)=(k-r.rows.length)*(m+1)+j:=by
         rw[<-c3,Nat.sub_mul];omega
        obtain⟨u,hu,yL⟩:=q3.2 _ _ (flat_get hl hk hj)
        refine⟨u,?_,yL⟩
        have Gv:news[(k-r.rows.length)*(m+1)+j]? =some u:=by simpa using hu
        have ew:=(List.getElem?_eq_some_iff.1 Gv).1
        rw[List.append_assoc,List.getElem?_append_right (by simp only[List.length_take,nG];omega),List.getElem?_append_left (by simp only[List.length_take,nG];omega)]
        rw[<-Gv]
        congr 1
        simp only[List.length_take,nG]
        omega)
     have eL:bQ (cC (bQ g i0 ⟨true,m+1,r.rows++ys⟩) i0) id ⟨true,m+1,r.rows++ys⟩=bQ (cC g i0) id ⟨true,m+1,r.rows++ys⟩:=by
      funext q;simp only[bQ,cC]
      by_cases h:q=id<;>by_cases h':q=i0<;>simp[h,h']
     have HH:=P1.rename (i:=i0) (id:=id) (r:=⟨true,m+1,r.rows++ys⟩) (by simp[bQ]) rfl hB hn
     rw[eL]at HH
     refine⟨_,_,_,.inl (gu ho (by rw[ex,ey];exact gy)),P2.trans ⟨Below.refl _ _,fun _ _=>rfl,fun _ h=>h,fB hn,fun _ h=>.inl h⟩,HH,?_,fun _ h=>gE h⟩
     exact .own _ _ _ _ _ B (eD _ _ _) hk gq (.inr (by simp)) h3 h4
    ·
     have holds:∃vh:List Value,vh.length=len*(m+1)/\(∀j v,vh[j]? =some v->w.cell? ⟨B.b,oo+j,none⟩=some v)/\fF P w D ι r.rows.flatten vh.toArray:=by
      obtain⟨A2,c2',e2,h2⟩:=sN (sz:=m+1) (u:=.slice (some ⟨B.b,oo,none⟩) len cap) S (.own i0 0 len oo cap B hB hk h1 DQ h3 h4) (ys:=r.rows) (by simp[bx,hg,c3]) (fun cs h=>by rw[<-c2];exact R.len cs h) R.flat
      rcases h2 with h2|⟨b2,o2,vh,rfl,p1,p2,p3,_⟩
      ·refine⟨[],by simp[c3,h2],fun j v h=>by simp at h,by rw[h2];exact⟨rfl,fun j a h=>by simp at h⟩⟩
      ·injection e2 with e2 _ _
       injection e2 with e2
       injection e2 with e21 e22 _
       subst e21;subst e22
       exact⟨vh,by rw[p1,c3],p2,p3⟩
     obtain⟨vh,p1,p2,p3⟩:=holds
     have gy:=run_append_grow (P:=P) w t o.type e i zv ht hi mW ⟨B.b,oo,none⟩ len cap vh (by rw[jS];exact p1) (fun j v hj=>by rw[kG];exact p2 j v hj) ⟨yb,yo,none⟩ ys.length c news (by rw[jS];exact q1) (fun j v hj=>by rw[kG];exact q2 j v hj) (by omega) (e63 _ c4) (growslice_fits (by omega) (fits _ c4))
     obtain⟨g1,g2⟩:=Cs w (len+ys.length) cap e c4
     have dC:(vh.toArray++news.toArray++Builtin.zeroCells zv.cells (grownCap w (len+ys.length) cap e-(len+ys.length))).size=grownCap w (len+ys.length) cap e*(m+1):=by
      rw[Array.size_append,Array.size_append,size_zeroCells,RP,jS]
      simp only[List.size_toArray,q1,p1]
      rw[<-Nat.add_mul,<-Nat.add_mul];congr 1;omega
     have S1:=(S.kill i0).alloc (id:=id) (w':=w.drew.alloc (.cells (vh.toArray++news.toArray++Builtin.zeroCells zv.cells (grownCap w (len+ys.length) cap e-(len+ys.length))) e)) (r:=⟨true,m+1,r.rows++ys⟩) rfl hn rfl (by dsimp only;rw[dC,List.length_append,<-c3];exact Nat.mul_le_mul_right _ g1) AL Od
      (fun k j cs b2 hk hj=>by
       have HC:=flat_get AL hk hj
       rw[List.flatten_append]at HC
       have M1:vh.length=r.rows.flatten.length:=by have:=p3.1;simpa using this
       dsimp only
       by_cases ew:k*(m+1)+j<r.rows.flatten.length
       ·rw[List.getElem?_append_left ew]at HC
        obtain⟨u,hu,yL⟩:=p3.2 _ _ HC
        refine⟨u,?_,yL⟩
        rw[Array.getElem?_append_left (by simp;omega),Array.getElem?_append_left (by simp;omega)];exact hu
       ·rw[List.getElem?_append_right (by omega)]at HC
        obtain⟨u,hu,yL⟩:=q3.2 _ _ HC
        refine⟨u,?_,yL⟩
        have CA:=(Array.getElem?_eq_some_iff.1 hu).1
        simp only[List.size_toArray]at CA
        rw[Array.getElem?_append_left (by simp;omega),Array.getElem?_append_right (by simp;omega)]
        simp only[List.size_toArray,M1];exact hu)
     have dJ:=Dv (T:=e) S (vh.toArray++news.toArray++Builtin.zeroCells zv.cells (grownCap w (len+ys.length) cap e-(len+ys.length))) hn ⟨w.heap.size,m+1,(vh.toArray++news.toArray++Builtin.zeroCells zv.cells (grownCap w (len+ys.length) cap e-(len+ys.length))).size,none⟩
     refine⟨_,_,_,.inl (gu ho (by rw[ex,ey];exact gy)),dJ,S1,?_,fun _ h=>gE h⟩
     refine .own _ _ _ _ _ _ (eD _ _ _) rfl g1 (.inr (by simp)) ?_ g2
     dsimp only;rw[dC];simp
  ·simp at hv
 ·simp at hv
theorem lF {x:Operand} {t:TypeId} {u:Value} (ho:o.op=.call {callee:=.builtin .clear,args:= #[x],argTypes:= #[t]}) (h:(Builtin.clear_ #[t] o.type #[a.eval x]).run P w=.ok u w'):(execOp a.eval o).run P w=.ok (.value u) w':=by
 simp only[execOp,ho,resolve,Sem.run_bind,Sem.run_pure,Result.andThen_ok,invoke,builtin]
 simp only[List.map_toArray,List.map_cons,List.map_nil]
 rw[h];rfl
theorem MD {x:Operand} {x':O} {t e:TypeId} {m:Nat} {z:List K} {g':Rows} (S:gJ P hs D ι g w) (E:cI P w D ι env a) (ho:o.op=.call {callee:=.builtin .clear,args:= #[x],argTypes:= #[t]})
  (ht:P.underlying t=some (.slice e)) (fH:eE P e=some (m+1)) (hz:jV P e=some z) (hx:cO P x=some x') (hv:bS g z (dm env x')=some g'):D6 P hs a o w D ι id .undef g':=by
 have rx:=dw E hx
 obtain⟨it,zv,hi,mW,RP,hm,Gz⟩:=ke hz
 have jS:it.size=m+1:=by simpa[eE,hi]using fH
 unfold bS at hv
 split at hv
 ·rename_i hb
  rw[hb]at rx
  simp at hv;subst hv
  refine⟨undef,w,ι,.inl (lF ho (by rw[kD rx];simp only[Builtin.clear_,Sem.run_bind];simp[run_underlying ht,undef])),Step.refl _ _ _ _,S,di.undef,fun _ _=>rfl⟩
 ·rename_i i off len hb
  rw[hb]at rx
  simp only[Option.bind_eq_some_iff]at hv
  obtain⟨r,hg,hv⟩:=hv
  split at hv
  ·rename_i hc
   obtain⟨c1,c2,c3⟩:=hc
   simp only[Option.some.injEq]at hv;subst hv
   obtain⟨oo,cap,B,ex,hB,h1,h2,h3,h4,hk⟩:=ji rx
   obtain⟨B',dM,R,kI,mE⟩:=S.row _ _ hg
   rw[hB]at dM;injection dM with dM;subst dM
   replace R:=R.row hk
   obtain⟨cur,T,hblk,hC,xg⟩:=R.cur
   by_cases h0:len=0
   ·subst h0
    have e1:({r with rows:=r.rows.take off++List.replicate 0 (z.map K.av)++r.rows.drop (off+0)}:Row)=r:=by cases r;simp
    rw[e1]
    have e2:bQ g i r=g:=by
     funext q;unfold bQ;split
     ·rename_i h;rw[h,hg]
     ·rfl
    rw[e2]
    refine⟨undef,w,ι,.inl (lF ho (by rw[ex];simp only[Builtin.clear_,Sem.run_bind];simp[run_underlying ht,undef])),Step.refl _ _ _ _,S,di.undef,fun _ _=>rfl⟩
   ·have DV:oo=off*B.sz:=by rcases h2 with h2|h2<;>omega
    have JY:B.sz=m+1:=by rw[R.sz,c2,Gz,jS]
    have zm:r.sz=m+1:=by rw[<-R.sz,JY]
    have Tk:zv.cells.size=m+1:=by rw[RP,jS]
    have zp:(Builtin.zeroCells zv.cells len).toList.length=len*(m+1):=by rw[Array.length_toList,size_zeroCells,Tk]
    have Tj:∀k,k<len*(m+1)->∃c,z[k % z.length]? =some c/\(Builtin.zeroCells zv.cells len).toList[k]? =some c.val:=fun k hk=>by
     obtain⟨c,nw,yF⟩:=pR (n:=len*zv.cells.size) hm (by rw[Gz,jS];omega) k (by rw[Tk];exact hk)
     exact⟨c,nw,by rw[Array.getElem?_toList];exact yF⟩
    have hbound:(off+len)*(m+1)<=r.rows.length*(m+1):=Nat.mul_le_mul_right _ c3
    have Cy:=R.fits
    rw[zm]at Cy
    have VW:(off+len)*(m+1)=off*(m+1)+len*(m+1):=Nat.add_mul _ _ _
    have dJ:=run_storeCells_at P B.b oo T (Builtin.zeroCells zv.cells len).toList 0 cur w hblk (by rw[zp,hC,DV,JY];omega) (by
     intro v hv
     obtain⟨k,hk,rfl⟩:=List.getElem_of_mem hv
     obtain⟨c,_,yF⟩:=Tj k (by rw[<-zp];exact hk)
     rw[List.getElem?_eq_getElem hk]at yF
     injection yF with yF
     rw[yF];cases c<;>rfl)
    simp only[Nat.add_zero]at dJ
    have nG:cur.toList.length=cur.size:=Array.length_toList
    obtain⟨P1,P2⟩:=S.put (r':={r with rows:=r.rows.take off++List.replicate len (z.map K.av)++r.rows.drop (off+len)}) hg c1 hB hblk (cur':=(cur.toList.take oo++(Builtin.zeroCells zv.cells len).toList++cur.toList.drop (oo+(Builtin.zeroCells zv.cells len).toList.length)).toArray)
     (by simp only[List.size_toArray,List.length_append,List.length_take,List.length_drop,nG,zp];rw[DV,JY];omega) c1 rfl (by
      have:(r.rows.take off++List.replicate len (z.map K.av)++r.rows.drop (off+len)).length=r.rows.length:=by simp;omega
      dsimp only;rw[this];exact R.fits) (fun cs dC=>by
      rcases List.mem_append.1 dC with h|h
      ·rcases List.mem_append.1 h with h|h
       ·exact R.len cs (List.mem_of_mem_take h)
       ·rw[List.eq_of_mem_replicate h];simp[c2]
      ·exact R.len cs (List.mem_of_mem_drop h)) (fun cs dC b hb=>by
      rcases List.mem_append.1 dC with h|h
      ·rcases List.mem_append.1 h with h|h
       ·exact R.flat cs (List.mem_of_mem_take h) b hb
       ·rw[List.eq_of_mem_replicate h]at hb
        obtain⟨c,_,rfl⟩:=List.mem_map.1 hb;exact c.nD
      ·exact R.flat cs (List.mem_of_mem_drop h) b hb) (fun k j cs b hk hj=>by
      simp only[List.getElem?_toArray]
      rw[zm]
      rw[DV,JY,zp]
      by_cases yk:k<off
      ·rw[List.append_assoc,List.getElem?_append_left (by simp;omega),List.getElem?_take,if_pos yk]at hk
       have iA:j<m+1:=by rw[<-zm,<-R.len cs (List.mem_of_getElem? hk)];exact(List.getElem?_eq_some_iff.1 hj).1
       have h2:=j9 yk iA
       rw[List.append_assoc,List.getElem?_append_left (by simp only[List.length_take,nG];omega),List.getElem?_take,if_pos h2]
       have:=xg k j cs b hk hj
       rw[zm]at this;simpa using this
      ·by_cases xk:k<off+len
       ·rw[List.append_assoc,List.getElem?_append_right (by simp;omega),List.getElem?_append_left (by simp;omega)]at hk
        have gH:=List.eq_of_mem_replicate (List.mem_of_getElem? hk)
        subst gH
        simp only[List.getElem?_map,Option.map_eq_some_iff]at hj
        obtain⟨q,hq,rfl⟩:=hj
        have iA:=(List.getElem?_eq_some_iff.1 hq).1
        rw[Gz,jS]at iA
        have rl:off*(m+1)<=k*(m+1):=Nat.mul_le_mul_right _ (by omega)
        have rq:k*(m+1)+j-off*(m+1)=(k-off)*(m+1)+j:=by rw[Nat.sub_mul];omega
        have CA:(k-off)*(m+1)+j<len*(m+1):=j9 (by omega) iA
        rw[List.append_assoc,List.getElem?_append_right (by simp only[List.length_take,nG];omega),List.getElem?_append_left (by simp only[List.length_take,nG,zp];omega)]
        obtain⟨c,nw,yF⟩:=Tj _ CA
        rw[Gz,jS,Nat.mul_comm (k-off),Nat.mul_add_mod,Nat.mod_eq_of_lt iA,hq]at nw
        injection nw with nw;subst nw
        refine⟨q.val,?_,xN q⟩
        rw[<-yF]
        congr 1
        simp only[List.length_take,nG];omega
       ·rw[List.getElem?_append_right (by simp;omega)]at hk
        simp only[List.length_append,List.length_take,List.length_replicate,List.getElem?_drop]at hk
        rw[show off+len+(k-(min off r.rows.length+len))=k by omega]at hk
        have kT:=(List.getElem?_eq_some_iff.1 hk).1
        have rl:(off+len)*(m+1)<=k*(m+1):=Nat.mul_le_mul_right _ (by omega)
        rw[List.getElem?_append_right (by simp only[List.length_append,List.length_take,nG,zp];omega)]
        simp only[List.length_append,List.length_take,nG,zp,List.getElem?_drop]
        rw[show off*(m+1)+len*(m+1)+(k*(m+1)+j-(min (off*(m+1)) cur.size+len*(m+1)))=k*(m+1)+j by omega]
        have:=xg k j cs b hk hj
        rw[zm]at this;simpa using this)
    refine⟨undef,_,ι,.inl (lF ho ?_),P2,P1,di.undef,fun _ _=>rfl⟩
    rw[ex]
    cases len with
    |zero=>exact(h0 rfl).elim
    |succ len=>
     simp only[Builtin.clear_,Sem.run_bind]
     simp[run_underlying ht,zeroValue,typeInfo,hi,mW,dJ,undef]
  ·simp at hv
 ·simp at hv
theorem Iv {dT sT ty e:TypeId} {it:TypeInfo} (hu:P.underlying dT=some (.slice e)) (hi:P.info? e=some it) (A B:Option Addr) (sQ FF Hn Pj:Nat) (h0:Nat.min sQ Hn=0):
  (Builtin.copy_ #[dT,sT] ty #[.slice A Hn Pj,.slice B sQ FF]).run P w=.ok (goInt 0) w:=by
 cases A<;>cases B<;>simp[Builtin.copy_,run_underlying hu,Builtin.lenOf,Builtin.firstCells,sizeOf,typeInfo,hi,h0,storeCells,loadCells,loadCellsFrom]
theorem Iw {dT sT ty e:TypeId} {it:TypeInfo} (hu:P.underlying dT=some (.slice e)) (hi:P.info? e=some it) (A B:Addr) (sQ FF Hn Pj:Nat) (cs:List Value) (hn:cs.length=Nat.min sQ Hn*it.size) (hl:(loadCells B cs.length).run P w=.ok cs.toArray w) (hs:(storeCells A cs).run P w=.ok () w'):
  (Builtin.copy_ #[dT,sT] ty #[.slice (some A) Hn Pj,.slice (some B) sQ FF]).run P w=.ok (goInt (Nat.min sQ Hn)) w':=by
 simp[Builtin.copy_,run_underlying hu,Builtin.lenOf,Builtin.firstCells,sizeOf,typeInfo,hi,<-hn,hl,hs]
theorem qG {x y:Operand} {t t2:TypeId} {u:Value} (ho:o.op=.call {callee:=.builtin .copy,args:= #[x,y],argTypes:= #[t,t2]}) (h:(Builtin.copy_ #[t,t2] o.type #[a.eval x,a.eval y]).run P w=.ok u w'):(execOp a.eval o).run P w=.ok (.value u) w':=by
 simp only[execOp,ho,resolve,Sem.run_bind,Sem.run_pure,Result.andThen_ok,invoke,builtin]
 simp only[List.map_toArray,List.map_cons,List.map_nil]
 rw[h];rfl
theorem Pk {x y:Operand} {x' y':O} {t t2 e:TypeId} {m:Nat} {ys:List (List AV)} {v:AV} {g':Rows} (S:gJ P hs D ι g w) (E:cI P w D ι env a) (ho:o.op=.call {callee:=.builtin .copy,args:= #[x,y],argTypes:= #[t,t2]})
  (ht:P.underlying t=some (.slice e)) (fH:eE P e=some (m+1)) (hx:cO P x=some x') (hy:cO P y=some y') (Gy:bx g (dm env y')=some ys) (hv:G1 g (m+1) (dm env x') ys=some (v,g')):D6 P hs a o w D ι id v g':=by
 have rx:=dw E hx
 have ry:=dw E hy
 obtain⟨it,hi,jS⟩:∃it,P.info? e=some it/\it.size=m+1:=by
  cases hq:P.info? e with
  |none=>simp[eE,hq]at fH
  |some it=>exact⟨it,rfl,by simpa[eE,hq]using fH⟩
 unfold G1 at hv
 split at hv
 ·rename_i i off len hb
  rw[hb]at rx
  simp only[Option.bind_eq_some_iff]at hv
  obtain⟨r,hg,hv⟩:=hv
  split at hv
  ·rename_i hc
   obtain⟨c1,c2,c3,c4⟩:=hc
   simp only[Option.some.injEq,Prod.mk.injEq]at hv
   obtain⟨rfl,rfl⟩:=hv
   rw[List.all_eq_true]at c4
   have hl:∀c∈ys,c.length=m+1:=fun c hc=>by have:=c4 c hc;simp at this;exact this.1
   have hf:∀c∈ys,∀b∈c,b.cell=true:=fun c hc b hb=>by have:=c4 c hc;simp at this;exact this.2 b hb
   obtain⟨oo,cap,B,ex,hB,h1,h2,h3,h4,hk⟩:=ji rx
   obtain⟨B',dM,R,kI,mE⟩:=S.row _ _ hg
   rw[hB]at dM;injection dM with dM;subst dM
   replace R:=R.row hk
   obtain⟨cur,T,hblk,hC,xg⟩:=R.cur
   obtain⟨A,sc,hu,hA⟩:=sN S ry Gy hl hf
   by_cases h0:min ys.length len=0
   ·rw[h0]
    have e1:({r with rows:=r.rows.take off++ys.take 0++r.rows.drop (off+0)}:Row)=r:=by cases r;simp
    rw[e1]
    have e2:bQ g i r=g:=by
     funext q;unfold bQ;split
     ·rename_i h;rw[h,hg]
     ·rfl
    rw[e2]
    refine⟨goInt 0,w,ι,.inl (qG ho (by rw[ex,hu];exact Iv ht hi _ _ _ _ _ _ h0)),Step.refl _ _ _ _,S,.eZ _ _ (.int _ _),fun _ _=>rfl⟩
   ·rcases hA with rfl|⟨b,o2,news,rfl,DU,hsrc,hR,h1c⟩
    ·simp at h0
    have SR:Nat.min ys.length len=min ys.length len:=rfl
    have hky:min ys.length len<=ys.length:=Nat.min_le_left _ _
    have kT:min ys.length len<=len:=Nat.min_le_right _ _
    generalize V8:min ys.length len=kk at *
    have hlen0:len≠0:=by omega
    have DV:oo=off*B.sz:=by rcases h2 with h2|h2<;>omega
    have JY:B.sz=m+1:=by rw[R.sz,c2]
    have zm:r.sz=m+1:=c2
    have UA:kk*(m+1)<=ys.length*(m+1):=Nat.mul_le_mul_right _ hky
    have zp:(news.take (kk*(m+1))).length=kk*(m+1):=by rw[List.length_take,DU];omega
    have hbound:(off+kk)*(m+1)<=r.rows.length*(m+1):=Nat.mul_le_mul_right _ (by omega)
    have Cy:=R.fits
    rw[zm]at Cy
    have VW:(off+kk)*(m+1)=off*(m+1)+kk*(m+1):=Nat.add_mul _ _ _
    have dJ:=run_storeCells_at P B.b oo T (news.take (kk*(m+1))) 0 cur w hblk (by rw[zp,hC,DV,JY];omega) (fun v hv=>h1c v (List.mem_of_mem_take hv))
    have UD:=run_loadCells_list (P:=P) w ⟨b,o2,none⟩ (news.take (kk*(m+1))) (fun j v hj=>by
     rw[List.getElem?_take]at hj
     split at hj
     ·have:=hsrc j v hj
      cases j with
      |zero=>simpa[Addr.add]using this
      |succ j=>simpa[Addr.add]using this
     ·cases hj)
    simp only[Nat.add_zero]at dJ
    have nG:cur.toList.length=cur.size:=Array.length_toList
    have Gu:(ys.take kk).length=kk:=by rw[List.length_take];omega
    obtain⟨P1,P2⟩:=S.put (r':={r with rows:=r.rows.take off++ys.take kk++r.rows.drop (off+kk)}) hg c1 hB hblk (cur':=(cur.toList.take oo++news.take (kk*(m+1))++cur.toList.drop (oo+(news.take (kk*(m+1))).length)).toArray)
     (by simp only[List.size_toArray,List.length_append,List.length_drop,nG,zp];rw[List.length_take,nG,DV,JY];omega) c1 rfl (by
      have:(r.rows.take off++ys.take kk++r.rows.drop (off+kk)).length=r.rows.length:=by simp;omega
      dsimp only;rw[this];exact R.fits) (fun cs dC=>by
      rcases List.mem_append.1 dC with h|h
      ·rcases List.mem_append.1 h with h|h
       ·exact R.len cs (List.mem_of_mem_take h)
       ·rw[hl cs (List.mem_of_mem_take h)];exact c2.symm
      ·exact R.len cs (List.mem_of_mem_drop h)) (fun cs dC b hb=>by
      rcases List.mem_append.1 dC with h|h
      ·rcases List.mem_append.1 h with h|h
       ·exact R.flat cs (List.mem_of_mem_take h) b hb
       ·exact hf cs (List.mem_of_mem_take h) b hb
      ·exact R.flat cs (List.mem_of_mem_drop h) b hb) (fun k j cs b hk hj=>by
      simp only[List.getElem?_toArray]
      rw[zm]
      rw[DV,JY,zp]
      by_cases yk:k<off
      ·rw[List.append_assoc,List.getElem?_append_left (by simp;omega),List.getElem?_take,if_pos yk]at hk
       have iA:j<m+1:=by rw[<-zm,<-R.len cs (List.mem_of_getElem? hk)];exact(List.getElem?_eq_some_iff.1 hj).1
       have h2:=j9 yk iA
       rw[List.append_assoc,List.getElem?_append_left (by simp only[List.length_take,nG];omega),List.getElem?_take,if_pos h2]
       have:=xg k j cs b hk hj
       rw[zm]at this;simpa using this
      ·by_cases xk:k<off+kk
       ·rw[List.append_assoc,List.getElem?_append_right (by simp;omega),List.getElem?_append_left (by simp;omega)]at hk
        simp only[List.length_take]at hk
        rw[show k-min off r.rows.length=k-off by omega,List.getElem?_take,if_pos (by omega)]at hk
        have iA:j<m+1:=by rw[<-hl cs (List.mem_of_getElem? hk)];exact(List.getElem?_eq_some_iff.1 hj).1
        have rl:off*(m+1)<=k*(m+1):=Nat.mul_le_mul_right _ (by omega)
        have rq:k*(m+1)+j-off*(m+1)=(k-off)*(m+1)+j:=by rw[Nat.sub_mul];omega
        have CA:(k-off)*(m+1)+j<kk*(m+1):=j9 (by omega) iA
        rw[List.append_assoc,List.getElem?_append_right (by simp only[List.length_take,nG];omega),List.getElem?_append_left (by rw[zp];simp only[List.length_take,nG];omega)]
        obtain⟨u,Ta,hu2⟩:=hR.2 ((k-off)*(m+1)+j) b (flat_get hl hk hj)
        refine⟨u,?_,hu2⟩
        rw[List.getElem?_take]
        simp only[List.length_take,nG]
        rw[show k*(m+1)+j-min (off*(m+1)) cur.size=(k-off)*(m+1)+j by omega,if_pos CA]
        simpa using Ta
       ·rw[List.getElem?_append_right (by simp;omega)]at hk
        simp only[List.length_append,List.length_take,List.getElem?_drop]at hk
        rw[show off+kk+(k-(min off r.rows.length+min kk ys.length))=k by omega]at hk
        have kT:=(List.getElem?_eq_some_iff.1 hk).1
        have rl:(off+kk)*(m+1)<=k*(m+1):=Nat.mul_le_mul_right _ (by omega)
        rw[List.getElem?_append_right (by rw[List.length_append,zp];simp only[List.length_take,nG];omega)]
        rw[List.getElem?_drop,List.length_append,zp]
        simp only[List.length_take,nG]
        rw[show off*(m+1)+kk*(m+1)+(k*(m+1)+j-(min (off*(m+1)) cur.size+kk*(m+1)))=k*(m+1)+j by omega]
        have:=xg k j cs b hk hj
        rw[zm]at this;simpa using this)
    refine⟨goInt kk,_,ι,.inl (qG ho ?_),P2,P1,.eZ _ _ (.int _ _),fun _ _=>rfl⟩
    rw[ex,hu]
    have:=Iw (w:=w) (sT:=t2) (ty:=o.type) ht hi ⟨B.b,oo,none⟩ ⟨b,o2,none⟩ ys.length sc len cap _ (by rw[zp,SR,jS]) UD dJ
    rw[SR]at this
    exact this
  ·simp at hv
 ·simp at hv
end
end Go.Proofs.YtgoelphibofcmaaGreat.V

namespace Go.Proofs.YtgoelphibofcmaaGreat.V
open Go.RowKit
variable {P:Program} {w w':World} {D D' D2:Nat->Prop} {ι ι' ι2:Names}
section
variable {g:Rows} {hs:Nat}
theorem gR:∀{n:Nat} {l r:List AV},dt g n l=some r->r.length=l.length/\∀(j:Nat) (b:AV),r[j]? =some b->∃a,l[j]? =some a/\fz g n a=some b
 |n,[],r,h=>by
  rw[dt]at h;simp at h;subst h;simp
 |n,a::l,r,h=>by
  rw[dt]at h
  split at h
  ·rename_i b hb
   simp only[Option.map_eq_some_iff]at h
   obtain⟨r',hr,rfl⟩:=h
   obtain⟨h1,h2⟩:=gR hr
   refine⟨by simp[h1],fun j c hj=>?_⟩
   cases j with
   |zero=>simp at hj;subst hj;exact⟨a,rfl,hb⟩
   |succ j=>simp at hj ⊢;exact h2 j c hj
  ·simp at h
theorem w9:∀{n:Nat} {l r:List (List AV)},eH g n l=some r->r.length=l.length/\∀(j:Nat) (b:List AV),r[j]? =some b->∃a,l[j]? =some a/\dt g n a=some b
 |n,[],r,h=>by
  rw[eH]at h;simp at h;subst h;simp
 |n,a::l,r,h=>by
  rw[eH]at h
  split at h
  ·rename_i b hb
   simp only[Option.map_eq_some_iff]at h
   obtain⟨r',hr,rfl⟩:=h
   obtain⟨h1,h2⟩:=w9 hr
   refine⟨by simp[h1],fun j c hj=>?_⟩
   cases j with
   |zero=>simp at hj;subst hj;exact⟨a,rfl,hb⟩
   |succ j=>simp at hj ⊢;exact h2 j c hj
  ·simp at h
theorem sb (hD:∀b,D b->D2 b) (yv:∀id row,g id=some row->row.w=true->∃B,ι id=some B/\ib P w D ι B row/\D2 B.b):∀(n:Nat) (a:AV) (u:Value) (r:AV),di P w D ι a u->fz g n a=some r->di P w D2 ι2 r u/\(a.cell=true->j0 P w D2 r u/\r.cell=true):=by
 intro n
 induction n with
 |zero=>intro a u r _ h;rw[fz]at h;simp at h
 |succ n ih=>
  intro a u r hr h
  have both:∀{r:AV},j0 P w D2 r u->r.cell=true->di P w D2 ι2 r u/\(a.cell=true->j0 P w D2 r u/\r.cell=true):=fun h1 h2=>⟨.eZ _ _ h1,fun _=>⟨h1,h2⟩⟩
  cases a with
  |map id m=>rw[fz]at h;cases h
  |r6 id=>rw[fz]at h;cases h
  |own id off len=>
   rw[fz]at h
   split at h
   ·rename_i row hg
    split at h
    ·rename_i hw
     split at h
     ·rename_i hle
      simp only[Option.map_eq_some_iff]at h
      obtain⟨rows,ph,rfl⟩:=h
      obtain⟨B,hB,R,PD⟩:=yv id row hg hw
      obtain⟨o,cap,B',rfl,dM,h1,h2,h3,h4,hk⟩:=ji hr
      rw[hB]at dM;injection dM with dM;subst dM
      replace R:=R.row hk
      obtain⟨l1,l2⟩:=w9 ph
      have hlen:rows.length=len:=by rw[l1];simp;omega
      by_cases h0:rows=[]
      ·subst h0
       simp at hlen;subst hlen
       exact both (.BM _ _ h4) rfl
      ·have hlp:0<len:=by rw[<-hlen];exact List.length_pos_iff.2 h0
       have ho:o=off*B.sz:=by rcases h2 with h2|h2<;>omega
       have src:∀i cs,rows[i]? =some cs->∃c0,row.rows[off+i]? =some c0/\dt g n c0=some cs:=fun i cs hi=>by
        obtain⟨c0,jW,hf⟩:=l2 i cs hi
        rw[List.getElem?_take]at jW
        split at jW
        ·rw[List.getElem?_drop]at jW;exact⟨c0,jW,hf⟩
        ·simp at jW
       have cell:∀i j,i<len->j<row.sz->∃c0 a0 v,row.rows[off+i]? =some c0/\c0[j]? =some a0/\w.cell? ⟨B.b,o+(i*row.sz+j),none⟩=some v/\di P w D ι a0 v:=fun i j hi hj=>by
        have rS:off+i<row.rows.length:=by omega
        have e1:=List.getElem?_eq_getElem rS
        have Md:j<row.rows[off+i].length:=by rw[R.len _ (List.getElem_mem rS)];exact hj
        obtain⟨v,hv,lZ⟩:=R.at_ _ _ _ _ e1 (List.getElem?_eq_getElem Md)
        refine⟨_,_,v,e1,List.getElem?_eq_getElem Md,?_,lZ⟩
        rw[ho,R.sz,<-hv]
        congr 2
        rw[Nat.add_mul];omega
       refine both (.sl rows B.b o len cap row.sz (fun i j=>(w.cell? ⟨B.b,o+(i*row.sz+j),none⟩).getD undef) hlen h1 h4 PD (fun cs dC=>?_) (fun cs dC b hb=>?_) (fun i j hi hj=>?_) (fun i j cs b hi hj=>?_)) rfl
       ·obtain⟨i,hi,rfl⟩:=List.getElem_of_mem dC
        obtain⟨c0,jW,hf⟩:=src i _ (List.getElem?_eq_getElem hi)
        rw[(gR hf).1];exact R.len c0 (List.mem_of_getElem? jW)
       ·obtain⟨i,hi,rfl⟩:=List.getElem_of_mem dC
        obtain⟨c0,jW,hf⟩:=src i _ (List.getElem?_eq_getElem hi)
        obtain⟨j,hj,rfl⟩:=List.getElem_of_mem hb
        obtain⟨a0,lK,J9⟩:=(gR hf).2 j _ (List.getElem?_eq_getElem hj)
        obtain⟨v,_,lZ⟩:=R.at_ _ _ _ _ jW lK
        exact((ih _ _ _ lZ J9).2 (R.flat c0 (List.mem_of_getElem? jW) a0 (List.mem_of_getElem? lK))).2
       ·obtain⟨c0,a0,v,_,_,hv,_⟩:=cell i j hi hj
        simp only[hv,Option.getD_some]
       ·obtain⟨c0,jW,hf⟩:=src i cs hi
        obtain⟨a0,lK,J9⟩:=(gR hf).2 j b hj
        have kF:i<len:=by rw[<-hlen];exact(List.getElem?_eq_some_iff.1 hi).1
        have iA:j<row.sz:=by rw[<-R.len c0 (List.mem_of_getElem? jW)];exact(List.getElem?_eq_some_iff.1 lK).1
        obtain⟨c1,a1,v,e1,e2,hv,lZ⟩:=cell i j kF iA
        rw[jW]at e1;injection e1 with e1;subst e1
        rw[lK]at e2;injection e2 with e2;subst e2
        simp only[hv,Option.getD_some]
        exact((ih _ _ _ lZ J9).2 (R.flat c0 (List.mem_of_getElem? jW) a0 (List.mem_of_getElem? lK))).1
     ·simp at h
    ·simp at h
   ·simp at h
  |ptr id i off=>
   rw[fz]at h
   split at h
   ·rename_i row hg
    split at h
    ·rename_i hw
     split at h
     ·rename_i c0 jW
      simp only[Option.map_eq_some_iff]at h
      obtain⟨cs,dC,rfl⟩:=h
      obtain⟨B,hB,R,PD⟩:=yv id row hg hw
      obtain⟨B',rfl,dM,hk⟩:=iS hr
      rw[hB]at dM;injection dM with dM;subst dM
      replace R:=R.row hk
      obtain⟨l1,l2⟩:=gR dC
      have at_:∀j b,cs[j]? =some b->∃a0 v,w.cell? ⟨B.b,i*B.sz+off+j,none⟩=some v/\di P w D ι a0 v/\a0.cell=true/\fz g n a0=some b:=fun j b hj=>by
       obtain⟨a0,lK,hf⟩:=l2 j b hj
       rw[List.getElem?_drop]at lK
       obtain⟨v,hv,lZ⟩:=R.at_ _ _ _ _ jW lK
       refine⟨a0,v,?_,lZ,R.flat c0 (List.mem_of_getElem? jW) a0 (List.mem_of_getElem? lK),hf⟩
       rw[R.sz,Nat.add_assoc];exact hv
      refine both (.du cs B.b _ (fun j=>(w.cell? ⟨B.b,i*B.sz+off+j,none⟩).getD undef) PD (fun b hb=>?_) (fun j hj=>?_) (fun j b hj=>?_)) rfl
      ·obtain⟨j,hj,rfl⟩:=List.getElem_of_mem hb
       obtain⟨a0,v,_,lZ,hc,hf⟩:=at_ j _ (List.getElem?_eq_getElem hj)
       exact((ih _ _ _ lZ hf).2 hc).2
      ·obtain⟨a0,v,hv,_⟩:=at_ j _ (List.getElem?_eq_getElem hj)
       simp only[hv,Option.getD_some]
      ·obtain⟨a0,v,hv,lZ,hc,hf⟩:=at_ j b hj
       simp only[hv,Option.getD_some]
       exact((ih _ _ _ lZ hf).2 hc).1
     ·simp at h
    ·simp at h
   ·simp at h
  |agg cs=>
   rw[fz]at h
   simp only[Option.map_eq_some_iff]at h
   obtain⟨r',oK,rfl⟩:=h
   obtain⟨vs,f,rfl,h1,h2,h3,h4⟩:=jh hr
   obtain⟨l1,l2⟩:=gR oK
   have hI:j0 P w D2 (.agg r') (.agg vs):=.agg r' vs f (by rw[h1,l1]) (fun b hb=>by
    obtain⟨j,hj,rfl⟩:=List.getElem_of_mem hb
    obtain⟨a0,lK,hf⟩:=l2 j _ (List.getElem?_eq_getElem hj)
    exact((ih _ _ _ (h4 j a0 lK) hf).2 (h2 a0 (List.mem_of_getElem? lK))).2) (fun j hj=>h3 j (by rw[<-l1];exact hj)) (fun j b hj=>by
    obtain⟨a0,lK,hf⟩:=l2 j b hj
    exact((ih _ _ _ (h4 j a0 lK) hf).2 (h2 a0 (List.mem_of_getElem? lK))).1)
   exact⟨.eZ _ _ hI,fun hc=>by simp[AV.cell]at hc⟩
  |gD cs=>
   rw[fz]at h
   simp only[Option.map_eq_some_iff]at h
   obtain⟨r',oK,rfl⟩:=h
   obtain⟨vs,f,rfl,h1,h3,h4⟩:=v8 hr
   obtain⟨l1,l2⟩:=gR oK
   exact⟨.gD r' vs f (by rw[h1,l1]) (fun j hj=>h3 j (by rw[<-l1];exact hj)) (fun j b hj=>by
    obtain⟨a0,lK,hf⟩:=l2 j b hj
    exact(ih _ _ _ (h4 j a0 lK) hf).1),fun hc=>by simp[AV.cell]at hc⟩
  |fn f dp=>
   rw[fz]at h
   split at h
   ·rename_i dx
    simp only[Option.map_eq_some_iff]at h
    obtain⟨r',oK,rfl⟩:=h
    obtain⟨vs,q,rfl,h0,h1,h3,h4⟩:=A6 hr
    obtain⟨l1,l2⟩:=gR oK
    exact both (.fn f r' vs q h0 (by rw[h1,l1]) (fun j hj=>h3 j (by rw[<-l1];exact hj)) (fun j b hj=>by
     obtain⟨a0,lK,hf⟩:=l2 j b hj
     exact((ih _ _ _ (h4 j a0 lK) hf).2 (List.all_eq_true.1 dx a0 (List.mem_of_getElem? lK))).1)) rfl
   ·simp at h
  |int k m=>rw[fz]at h<;>(try simp at h)<;>(try subst h)<;>(try(rw[dD hr];exact⟨.eZ _ _ (.int _ _),fun _=>⟨.int _ _,rfl⟩⟩))<;>(try(intros;simp_all))
  |bool b=>rw[fz]at h<;>(try simp at h)<;>(try subst h)<;>(try(rw[fA hr];exact⟨.eZ _ _ (.bool _),fun _=>⟨.bool _,rfl⟩⟩))<;>(try(intros;simp_all))
  |str b=>rw[fz]at h<;>(try simp at h)<;>(try subst h)<;>(try(rw[fR hr];exact⟨.eZ _ _ (.str _),fun _=>⟨.str _,rfl⟩⟩))<;>(try(intros;simp_all))
  |bD=>rw[fz]at h<;>(try simp at h)<;>(try subst h)<;>(try(rw[kD hr];exact⟨.eZ _ _ .bD,fun _=>⟨.bD,rfl⟩⟩))<;>(try(intros;simp_all))
  |jo=>rw[fz]at h<;>(try simp at h)<;>(try subst h)<;>(try(rw[xO hr];exact⟨.eZ _ _ .jo,fun _=>⟨.jo,rfl⟩⟩))<;>(try(intros;simp_all))
  |jy=>rw[fz]at h<;>(try simp at h)<;>(try subst h)<;>(try(rw[Dq hr];exact⟨.eZ _ _ .jy,fun _=>⟨.jy,rfl⟩⟩))<;>(try(intros;simp_all))
  |uE f dp=>rw[fz]at h<;>(try simp at h)<;>(try(intros;simp_all))
  |gT=>rw[fz]at h<;>(try simp at h)<;>(try subst h)<;>(try(cases hr with|eZ _ _ hr=>exact both (hr.frame (fun _ _=>rfl) hD) rfl))<;>(try(intros;simp_all))
  |sl rows=>rw[fz]at h<;>(try simp at h)<;>(try subst h)<;>(try(cases hr with|eZ _ _ hr=>exact both (hr.frame (fun _ _=>rfl) hD) rfl))<;>(try(intros;simp_all))
  |du cs=>rw[fz]at h<;>(try simp at h)<;>(try subst h)<;>(try(cases hr with|eZ _ _ hr=>exact both (hr.frame (fun _ _=>rfl) hD) rfl))<;>(try(intros;simp_all))
theorem jk:∀{n:Nat} {l r:List AV},eI g n l=some r->r.length=l.length/\∀(j:Nat) (b:AV),r[j]? =some b->∃a,l[j]? =some a/\gK g n a=some b
 |n,[],r,h=>by
  rw[eI]at h;simp at h;subst h;simp
 |n,a::l,r,h=>by
  rw[eI]at h
  split at h
  ·rename_i b hb
   simp only[Option.map_eq_some_iff]at h
   obtain⟨r',hr,rfl⟩:=h
   obtain⟨h1,h2⟩:=jk hr
   refine⟨by simp[h1],fun j c hj=>?_⟩
   cases j with
   |zero=>simp at hj;subst hj;exact⟨a,rfl,hb⟩
   |succ j=>simp at hj ⊢;exact h2 j c hj
  ·simp at h
theorem uu:∀{n:Nat} {l r:List (List AV)},iE g n l=some r->r.length=l.length/\∀(j:Nat) (b:List AV),r[j]? =some b->∃a,l[j]? =some a/\eI g n a=some b
 |n,[],r,h=>by
  rw[iE]at h;simp at h;subst h;simp
 |n,a::l,r,h=>by
  rw[iE]at h
  split at h
  ·rename_i b hb
   simp only[Option.map_eq_some_iff]at h
   obtain⟨r',hr,rfl⟩:=h
   obtain⟨h1,h2⟩:=uu hr
   refine⟨by simp[h1],fun j c hj=>?_⟩
   cases j with
   |zero=>simp at hj;subst hj;exact⟨a,rfl,hb⟩
   |succ j=>simp at hj ⊢;exact h2 j c hj
  ·simp at h
theorem Hw (yv:∀id row,g id=some row->row.w=true->∃B,ι id=some B/\ib P w D ι B row/\D2 B.b):∀(n:Nat) (a:AV) (u:Value) (r:AV),di P w D ι a u->gK g n a=some r->di P w D2 ι2 r u/\(a.cell=true->j0 P w D2 r u/\r.cell=true):=by
 intro n
 induction n with
 |zero=>intro a u r _ h;rw[gK]at h;simp at h
 |succ n ih=>
  intro a u r hr h
  have both:∀{r:AV},j0 P w D2 r u->r.cell=true->di P w D2 ι2 r u/\(a.cell=true->j0 P w D2 r u/\r.cell=true):=fun h1 h2=>⟨.eZ _ _ h1,fun _=>⟨h1,h2⟩⟩
  cases a with
  |map id m=>rw[gK]at h<;>simp_all
  |r6 id=>rw[gK]at h<;>simp_all
  |own id off len=>
   rw[gK]at h
   split at h
   ·rename_i row hg
    split at h
    ·rename_i hw
     split at h
     ·rename_i hle
      simp only[Option.map_eq_some_iff]at h
      obtain⟨rows,ph,rfl⟩:=h
      obtain⟨B,hB,R,PD⟩:=yv id row hg hw
      obtain⟨o,cap,B',rfl,dM,h1,h2,h3,h4,hk⟩:=ji hr
      rw[hB]at dM;injection dM with dM;subst dM
      replace R:=R.row hk
      obtain⟨l1,l2⟩:=uu ph
      have hlen:rows.length=len:=by rw[l1];simp;omega
      by_cases h0:rows=[]
      ·subst h0
       simp at hlen;subst hlen
       exact both (.BM _ _ h4) rfl
      ·have hlp:0<len:=by rw[<-hlen];exact List.length_pos_iff.2 h0
       have ho:o=off*B.sz:=by rcases h2 with h2|h2<;>omega
       have src:∀i cs,rows[i]? =some cs->∃c0,row.rows[off+i]? =some c0/\eI g n c0=some cs:=fun i cs hi=>by
        obtain⟨c0,jW,hf⟩:=l2 i cs hi
        rw[List.getElem?_take]at jW
        split at jW
        ·rw[List.getElem?_drop]at jW;exact⟨c0,jW,hf⟩
        ·simp at jW
       have cell:∀i j,i<len->j<row.sz->∃c0 a0 v,row.rows[off+i]? =some c0/\c0[j]? =some a0/\w.cell? ⟨B.b,o+(i*row.sz+j),none⟩=some v/\di P w D ι a0 v:=fun i j hi hj=>by
        have rS:off+i<row.rows.length:=by omega
        have e1:=List.getElem?_eq_getElem rS
        have Md:j<row.rows[off+i].length:=by rw[R.len _ (List.getElem_mem rS)];exact hj
        obtain⟨v,hv,lZ⟩:=R.at_ _ _ _ _ e1 (List.getElem?_eq_getElem Md)
        refine⟨_,_,v,e1,List.getElem?_eq_getElem Md,?_,lZ⟩
        rw[ho,R.sz,<-hv]
        congr 2
        rw[Nat.add_mul];omega
       refine both (.sl rows B.b o len cap row.sz (fun i j=>(w.cell? ⟨B.b,o+(i*row.sz+j),none⟩).getD undef) hlen h1 h4 PD (fun cs dC=>?_) (fun cs dC b hb=>?_) (fun i j hi hj=>?_) (fun i j cs b hi hj=>?_)) rfl
       ·obtain⟨i,hi,rfl⟩:=List.getElem_of_mem dC
        obtain⟨c0,jW,hf⟩:=src i _ (List.getElem?_eq_getElem hi)
        rw[(jk hf).1];exact R.len c0 (List.mem_of_getElem? jW)
       ·obtain⟨i,hi,rfl⟩:=List.getElem_of_mem dC
        obtain⟨c0,jW,hf⟩:=src i _ (List.getElem?_eq_getElem hi)
        obtain⟨j,hj,rfl⟩:=List.getElem_of_mem hb
        obtain⟨a0,lK,J9⟩:=(jk hf).2 j _ (List.getElem?_eq_getElem hj)
        obtain⟨v,_,lZ⟩:=R.at_ _ _ _ _ jW lK
        exact((ih _ _ _ lZ J9).2 (R.flat c0 (List.mem_of_getElem? jW) a0 (List.mem_of_getElem? lK))).2
       ·obtain⟨c0,a0,v,_,_,hv,_⟩:=cell i j hi hj
        simp only[hv,Option.getD_some]
       ·obtain⟨c0,jW,hf⟩:=src i cs hi
        obtain⟨a0,lK,J9⟩:=(jk hf).2 j b hj
        have kF:i<len:=by rw[<-hlen];exact(List.getElem?_eq_some_iff.1 hi).1
        have iA:j<row.sz:=by rw[<-R.len c0 (List.mem_of_getElem? jW)];exact(List.getElem?_eq_some_iff.1 lK).1
        obtain⟨c1,a1,v,e1,e2,hv,lZ⟩:=cell i j kF iA
        rw[jW]at e1;injection e1 with e1;subst e1
        rw[lK]at e2;injection e2 with e2;subst e2
        simp only[hv,Option.getD_some]
        exact((ih _ _ _ lZ J9).2 (R.flat c0 (List.mem_of_getElem? jW) a0 (List.mem_of_getElem? lK))).1
     ·simp at h
    ·simp at h
   ·simp at h
  |ptr id i off=>
   rw[gK]at h
   split at h
   ·rename_i row hg
    split at h
    ·rename_i hw
     split at h
     ·rename_i c0 jW
      simp only[Option.map_eq_some_iff]at h
      obtain⟨cs,dC,rfl⟩:=h
      obtain⟨B,hB,R,PD⟩:=yv id row hg hw
      obtain⟨B',rfl,dM,hk⟩:=iS hr
      rw[hB]at dM;injection dM with dM;subst dM
      replace R:=R.row hk
      obtain⟨l1,l2⟩:=jk dC
      have at_:∀j b,cs[j]? =some b->∃a0 v,w.cell? ⟨B.b,i*B.sz+off+j,none⟩=some v/\di P w D ι a0 v/\a0.cell=true/\gK g n a0=some b:=fun j b hj=>by
       obtain⟨a0,lK,hf⟩:=l2 j b hj
       rw[List.getElem?_drop]at lK
       obtain⟨v,hv,lZ⟩:=R.at_ _ _ _ _ jW lK
       refine⟨a0,v,?_,lZ,R.flat c0 (List.mem_of_getElem? jW) a0 (List.mem_of_getElem? lK),hf⟩
       rw[R.sz,Nat.add_assoc];exact hv
      refine both (.du cs B.b _ (fun j=>(w.cell? ⟨B.b,i*B.sz+off+j,none⟩).getD undef) PD (fun b hb=>?_) (fun j hj=>?_) (fun j b hj=>?_)) rfl
      ·obtain⟨j,hj,rfl⟩:=List.getElem_of_mem hb
       obtain⟨a0,v,_,lZ,hc,hf⟩:=at_ j _ (List.getElem?_eq_getElem hj)
       exact((ih _ _ _ lZ hf).2 hc).2
      ·obtain⟨a0,v,hv,_⟩:=at_ j _ (List.getElem?_eq_getElem hj)
       simp only[hv,Option.getD_some]
      ·obtain⟨a0,v,hv,lZ,hc,hf⟩:=at_ j b hj
       simp only[hv,Option.getD_some]
       exact((ih _ _ _ lZ hf).2 hc).1
     ·simp at h
    ·simp at h
   ·simp at h
  |agg cs=>
   rw[gK]at h
   simp only[Option.map_eq_some_iff]at h
   obtain⟨r',oK,rfl⟩:=h
   obtain⟨vs,f,rfl,h1,h2,h3,h4⟩:=jh hr
   obtain⟨l1,l2⟩:=jk oK
   have hI:j0 P w D2 (.agg r') (.agg vs):=.agg r' vs f (by rw[h1,l1]) (fun b hb=>by
    obtain⟨j,hj,rfl⟩:=List.getElem_of_mem hb
    obtain⟨a0,lK,hf⟩:=l2 j _ (List.getElem?_eq_getElem hj)
    exact((ih _ _ _ (h4 j a0 lK) hf).2 (h2 a0 (List.mem_of_getElem? lK))).2) (fun j hj=>h3 j (by rw[<-l1];exact hj)) (fun j b hj=>by
    obtain⟨a0,lK,hf⟩:=l2 j b hj
    exact((ih _ _ _ (h4 j a0 lK) hf).2 (h2 a0 (List.mem_of_getElem? lK))).1)
   exact⟨.eZ _ _ hI,fun hc=>by simp[AV.cell]at hc⟩
  |gD cs=>
   rw[gK]at h
   simp only[Option.map_eq_some_iff]at h
   obtain⟨r',oK,rfl⟩:=h
   obtain⟨vs,f,rfl,h1,h3,h4⟩:=v8 hr
   obtain⟨l1,l2⟩:=jk oK
   exact⟨.gD r' vs f (by rw[h1,l1]) (fun j hj=>h3 j (by rw[<-l1];exact hj)) (fun j b hj=>by
    obtain⟨a0,lK,hf⟩:=l2 j b hj
    exact(ih _ _ _ (h4 j a0 lK) hf).1),fun hc=>by simp[AV.cell]at hc⟩
  |fn f dp=>rw[gK]at h<;>(try simp at h)<;>(try(intros;simp_all))
  |int k m=>rw[gK]at h<;>(try simp at h)<;>(try subst h)<;>(try(rw[dD hr];exact⟨.eZ _ _ (.int _ _),fun _=>⟨.int _ _,rfl⟩⟩))<;>(try(intros;simp_all))
  |bool b=>rw[gK]at h<;>(try simp at h)<;>(try subst h)<;>(try(rw[fA hr];exact⟨.eZ _ _ (.bool _),fun _=>⟨.bool _,rfl⟩⟩))<;>(try(intros;simp_all))
  |str b=>rw[gK]at h<;>(try simp at h)<;>(try subst h)<;>(try(rw[fR hr];exact⟨.eZ _ _ (.str _),fun _=>⟨.str _,rfl⟩⟩))<;>(try(intros;simp_all))
  |bD=>rw[gK]at h<;>(try simp at h)<;>(try subst h)<;>(try(rw[kD hr];exact⟨.eZ _ _ .bD,fun _=>⟨.bD,rfl⟩⟩))<;>(try(intros;simp_all))
  |jo=>rw[gK]at h<;>(try simp at h)<;>(try subst h)<;>(try(rw[xO hr];exact⟨.eZ _ _ .jo,fun _=>⟨.jo,rfl⟩⟩))<;>(try(intros;simp_all))
  |jy=>rw[gK]at h<;>(try simp at h)<;>(try subst h)<;>(try(rw[Dq hr];exact⟨.eZ _ _ .jy,fun _=>⟨.jy,rfl⟩⟩))<;>(try(intros;simp_all))
  |uE f dp=>rw[gK]at h<;>(try simp at h)<;>(try(intros;simp_all))
  |gT=>rw[gK]at h<;>(try simp at h)<;>(try subst h)<;>(try(cases hr with|eZ _ _ hr=>cases hr;exact both .gT rfl))<;>(try(intros;simp_all))
  |sl rows=>rw[gK]at h<;>(try simp at h)<;>(try(intros;simp_all))
  |du cs=>rw[gK]at h<;>(try simp at h)<;>(try(intros;simp_all))
end
end Go.Proofs.YtgoelphibofcmaaGreat.V

namespace Go.Proofs.YtgoelphibofcmaaGreat.V
open Go.RowKit
variable {P:Program} {w w':World} {D D':Nat->Prop} {ι ι':Names}
section
variable {g:Rows} {hs:Nat} {env:Env} {a:Act} {o:Oper} {id:Id} {v:AV}
theorem gJ.IL (S:gJ P hs D ι g w) {i:Id} {r r':Row} {B:s9} {ob:Obj} (hid:g i=some r) (hw:r.w=true) (hB:ι i=some B)
  (hR:(∀a v,di P w D ι a v->di P {w with heap:=w.heap.setIfInBounds B.b ob} D ι a v)->(w.heap.setIfInBounds B.b ob)[B.b]? =some ob->ib P {w with heap:=w.heap.setIfInBounds B.b ob} D ι B r'):
  gJ P hs D ι (bQ g i r') {w with heap:=w.heap.setIfInBounds B.b ob}/\Step hs D ι w D ι {w with heap:=w.heap.setIfInBounds B.b ob}:=by
 obtain⟨B0,Cu,R,kI,mE⟩:=S.row i r hid
 rw[hB]at Cu;injection Cu with Cu;subst Cu
 have other:∀b,b≠B.b->(w.heap.setIfInBounds B.b ob)[b]? =w.heap[b]? :=fun b hb=>by simp[Ne.symm hb]
 have hd:∀b,D b->(w.heap.setIfInBounds B.b ob)[b]? =w.heap[b]? :=fun b hb=>other b (by rintro rfl;exact mE hw hb)
 have hr:∀a v,di P w D ι a v->di P {w with heap:=w.heap.setIfInBounds B.b ob} D ι a v:=fun a v h=>h.frame hd (fun _ h=>h) (fun _ _ h=>h)
 refine⟨⟨by simpa using S.lo,fun b hb=>by simpa using S.dead b hb,fun j q h=>?_,fun j j' q q' C C' h h' Kp hC uY he=>?_⟩,⟨⟨rfl,rfl,rfl,by simp,fun k hk=>other k (by have:=kI hw;omega)⟩,hd,fun _ h=>h,fun _ _ h=>h,fun _ h=>.inl h⟩⟩
 ·unfold bQ at h
  split at h
  ·rename_i e
   subst e
   injection h with h;subst h
   exact⟨B,hB,hR hr (by simp[R.lt]),fun _=>kI hw,fun _=>mE hw⟩
  ·rename_i e
   obtain⟨C,hC,RC,k1,k2⟩:=S.row j q h
   refine⟨C,hC,RC.frame (other C.b (fun Og=>e ?_)) hr,k1,k2⟩
   exact(S.inj i j r q B C hid h hw hB hC Og.symm).symm
 ·unfold bQ at h h'
  have get:∀j p,(if j=i then some r' else g j)=some p->∃p0,g j=some p0/\(p.w=true->p0.w=true):=fun j p hp=>by
   split at hp
   ·rename_i e;subst e;injection hp with hp;subst hp;exact⟨r,hid,fun _=>hw⟩
   ·exact⟨p,hp,fun h=>h⟩
  obtain⟨p,hp,RD⟩:=get _ _ h
  obtain⟨p',Qa,_⟩:=get _ _ h'
  exact S.inj j j' p p' C C' hp Qa (RD Kp) hC uY he
theorem Ge {s:TS} {x y:AV} {u v:Value} (he:fV s x y=some true) (hx:di P w D ι x u) (hy:di P w D ι y v):u=v/\∀n,Instr.sameBits n u v=true:=by
 unfold fV at he
 split at he
 ·split at he
  ·rename_i hk
   subst hk
   simp at he;subst he
   rw[dD hx,dD hy]
   exact⟨rfl,fun n=>by cases n<;>simp[Instr.sameBits]⟩
  ·cases he
 ·simp at he;subst he
  rw[fA hx,fA hy]
  exact⟨rfl,fun n=>by cases n<;>simp[Instr.sameBits]⟩
 ·simp at he;subst he
  rw[fR hx,fR hy]
  exact⟨rfl,fun n=>by cases n<;>simp[Instr.sameBits,Ju]⟩
 ·cases he
theorem Cg {n:Nat}:∀{ts:List TS} {xs ys:List AV} {vs us:List Value},fj ts xs ys=some true->vs.length=xs.length->us.length=ys.length->(∀(j:Nat) (a:AV),xs[j]? =some a->∃u,vs[j]? =some u/\di P w D ι a u)->(∀(j:Nat) (a:AV),ys[j]? =some a->∃u,us[j]? =some u/\di P w D ι a u)->
  us.length=vs.length/\(us.zip vs).all (fun p=>Instr.sameBits n p.1 p.2)=true
 |[],[],[],vs,us,_,h1,h2,_,_=>by
  cases vs<;>cases us<;>simp_all
 |[],x::xs,ys,vs,us,h,_,_,_,_=>by simp[fj]at h
 |[],[],y::ys,vs,us,h,_,_,_,_=>by simp[fj]at h
 |t::ts,[],ys,vs,us,h,_,_,_,_=>by simp[fj]at h
 |t::ts,x::xs,[],vs,us,h,_,_,_,_=>by simp[fj]at h
 |t::ts,x::xs,y::ys,[],us,h,h1,_,_,_=>by simp at h1
 |t::ts,x::xs,y::ys,v::vs,[],h,_,h2,_,_=>by simp at h2
 |t::ts,x::xs,y::ys,v::vs,u::us,h,h1,h2,hx,hy=>by
  unfold fj at h
  split at h
  ·rename_i a b ha hb
   simp only[Option.some.injEq,Bool.and_eq_true]at h
   obtain⟨rfl,rfl⟩:=h
   obtain⟨v',oI,rv⟩:=hx 0 x rfl
   obtain⟨u',Gv,ru⟩:=hy 0 y rfl
   simp at oI Gv;subst oI;subst Gv
   obtain⟨e1,e2⟩:=Ge ha rv ru
   obtain⟨q1,q2⟩:=Cg (n:=n) hb (by simpa using h1) (by simpa using h2) (fun j a hj=>by simpa using hx (j+1) a (by simpa using hj)) (fun j a hj=>by simpa using hy (j+1) a (by simpa using hj))
   refine⟨by simp[q1],?_⟩
   simp only[List.zip_cons_cons,List.all_cons,q2,Bool.and_true]
   rw[<-e1]
   have:=e2 n
   rw[<-e1]at this
   exact this
  ·cases h
theorem C6 {m:MK} {key:List AV}:∀{rows:List (List AV)} {i j:Nat},gz m key rows i=some (some j)->∃cs,i<=j/\rows[j-i]? =some cs/\fj m.ts key (cs.take m.ks)=some true
 |[],i,j,h=>by simp[gz]at h
 |cs::rows,i,j,h=>by
  unfold gz at h
  split at h
  ·rename_i hq
   simp at h;subst h
   exact⟨cs,Nat.le_refl _,by simp,hq⟩
  ·obtain⟨c,h1,h2,h3⟩:=C6 h
   exact⟨c,by omega,by rw[show j-i=(j-(i+1))+1 by omega];simpa using h2,h3⟩
  ·cases h
theorem xC {m:MK} {k:AV} {rows:List (List AV)} {fi:Option Nat} (h:gi m k rows=some fi):k.isAgg=m.ka/\k.cells.length=m.ks/\(k.cells.all AV.cell=true)/\gz m k.cells rows 0=some fi:=by
 unfold gi at h
 split at h
 ·rename_i hc;exact⟨hc.1,hc.2.1,hc.2.2,h⟩
 ·cases h
theorem K8 {m:MK} {k y:AV} (h1:k.isAgg=m.ka) (h2:k.cells.length=m.ks):part m.ka m.ks (k.cells++[y])=some k/\(k.cells++[y])[m.ks]? =some y:=by
 refine⟨?_,by rw[List.getElem?_append_right (by omega),h2,Nat.sub_self];rfl⟩
 cases hk:m.ka with
 |false=>
  rw[hk]at h1
  rw[wU h1];rfl
 |true=>
  rw[hk]at h1
  cases k<;>simp[AV.isAgg]at h1
  rename_i cs
  simp only[AV.cells]at h2 ⊢
  simp only[part,if_true]
  rw[if_pos (by simp;omega),<-h2,List.take_left']
  rfl
theorem stays {k:TypeId} {m:MK} (hK:F4 P k m) {key kv:AV} {u zI:Value} {cs:List AV} (h1:key.isAgg=m.ka) (hr:di P w D ι key u) (hp:part m.ka m.ks cs=some kv) (ho:di P w D ι kv zI) (he:fj m.ts key.cells (cs.take m.ks)=some true):(Instr.keyThatStays zI u).run P w=.ok u w:=by
 have hs:Instr.sameBits 10000 zI u=true:=by
  rcases hK with⟨s,rfl,hs⟩|⟨fs,ts,rfl,sf,yN,dJ,dx⟩
  ·rw[wU h1]at he
   cases cs with
   |nil=>simp[part]at hp
   |cons c l=>
    simp[part]at hp;subst hp
    simp only[MK.ks,List.length_cons,List.length_nil,Nat.zero_add,List.take_succ_cons,List.take_zero,fj]at he
    cases hq:fV s key c with
    |none=>rw[hq]at he;simp at he
    |some b=>
     rw[hq]at he;simp at he;subst he
     obtain⟨e1,e2⟩:=Ge hq hr ho
     rw[<-e1]
     have:=e2 10000
     rwa [<-e1]at this
  ·cases key<;>simp[AV.isAgg]at h1
   rename_i ks
   simp only[part,if_true]at hp
   split at hp
   ·simp only[Option.some.injEq]at hp;subst hp
    obtain⟨vs,rfl,n1,r1⟩:=sL hr
    obtain⟨us,rfl,n2,r2⟩:=sL ho
    obtain⟨q1,q2⟩:=Cg (n:=9999) (vs:=vs.toList) (us:=us.toList) he (by simpa[AV.cells]using n1) (by simpa using n2) (fun j a hj=>by simpa using r1 j a hj) (fun j a hj=>by simpa using r2 j a hj)
    simp only[Instr.sameBits,Bool.and_eq_true,beq_iff_eq]
    exact⟨by simpa using q1,q2⟩
   ·cases hp
 simp[Instr.keyThatStays,hs]
theorem Lw {es:Array MapEntry} {clock:Nat} (h:Mo es clock) (k v:Value):Mo (es.push ⟨k,v,clock⟩) (clock+1):=by
 refine⟨fun x hx=>?_,?_⟩
 ·simp only[Array.toList_push,List.mem_append,List.mem_singleton]at hx
  rcases hx with hx|rfl
  ·have:=h.1 x hx;omega
  ·exact Nat.lt_succ_self _
 ·simp only[Array.toList_push,List.map_append,List.map_cons,List.map_nil]
  refine List.nodup_append.2 ⟨h.2,by simp,fun a ha b hb=>?_⟩
  obtain⟨x,hx,rfl⟩:=List.mem_map.1 ha
  simp at hb;subst hb
  have:=h.1 x hx;omega
theorem FN {es:Array MapEntry} {clock:Nat} (h:Mo es clock) (j:Nat) (k v:Value):Mo (es.modify j fun e=>{e with key:=k,val:=v}) clock:=by
 have e:(es.modify j fun e=>{e with key:=k,val:=v}).toList.map (·.born)=es.toList.map (·.born):=by
  refine List.ext_getElem? fun i=>?_
  simp only[List.getElem?_map,Array.getElem?_toList,Array.getElem?_modify]
  split
  ·cases es[i]? <;>rfl
  ·rfl
 refine⟨fun x hx=>?_,by rw[e];exact h.2⟩
 have hb:x.born∈(es.modify j fun e=>{e with key:=k,val:=v}).toList.map (·.born):=List.mem_map_of_mem hx
 rw[e]at hb
 obtain⟨y,hy,hyb⟩:=List.mem_map.1 hb
 rw[<-hyb];exact h.1 y hy
theorem Iz {es:Array MapEntry} {clock:Nat} (h:Mo es clock) {j:Nat} (hj:j<es.size):Mo (es.eraseIdxIfInBounds j) clock:=by
 have e:(es.eraseIdxIfInBounds j).toList=es.toList.eraseIdx j:=by
  unfold Array.eraseIdxIfInBounds
  rw[dif_pos hj,Array.toList_eraseIdx]
 refine⟨fun x hx=>h.1 x ((List.eraseIdx_sublist _ _).subset (by rwa [e]at hx)),?_⟩
 rw[e]
 exact((List.eraseIdx_sublist es.toList j).map (·.born)).nodup h.2
theorem Co {k y:AV} (h1:k.cells.all AV.cell=true) (h2:y.cell=true):∀a∈k.cells++[y],a.cell=true:=fun a ha=>by
 rcases List.mem_append.1 ha with ha|ha
 ·exact List.all_eq_true.1 h1 a ha
 ·rw[List.mem_singleton.1 ha];exact h2
theorem Po {t:TypeId} {x k y:Operand} {m:MK} {z:K} {x' k' y':O} {g':Rows} (S:gJ P hs D ι g w) (E:cI P w D ι env a) (ho:o.op=.mapUpdate t x k y∨o.op=.insert t x k y) (hc:tt P t=some (m,z)) (hx:cO P x=some x') (hk:cO P k=some k') (hy:cO P y=some y')
  (hv:bK (.set m) [dm env x',dm env k',dm env y'] g=some g'):D6 P hs a o w D ι id .undef g':=by
 obtain⟨kt,e,i,zv,ht,hi,mW,UC,hK⟩:=rZ hc
 simp only[bK,Option.bind_eq_some_iff]at hv
 obtain⟨p,hp,fi,Cx,hv⟩:=hv
 split at hv
 ·rename_i hcond
  obtain⟨hw,hyc,_⟩:=hcond
  simp only[Option.some.injEq]at hv;subst hv
  obtain⟨B,hu,hg,hB,vN,es,clock,hb,fH,hlen,hM⟩:=AN S (dw E hx) hp
  have rk:=dw E hk
  have ry:=dw E hy
  obtain⟨Ma,res,hf,hF⟩:=w6 (B:=B) hK rk fH hM Cx
  obtain⟨k1,k2,k3,k4⟩:=xC Cx
  obtain⟨B',dM,R,_⟩:=S.row p.1 p.2 hg
  rw[hB]at dM;injection dM with dM;subst dM
  obtain⟨pk1,pk2⟩:=K8 (y:=dm env y') k1 k2
  have fC:(getObj B.b).run P w=.ok (.map es clock) w:=MapKept.run_getObj_map hb
  rcases hF with⟨rfl,rfl⟩|⟨j,en,rfl,he,rfl⟩
  ·have oG:=S.IL (ob:=.map (es.push ⟨a.eval k,a.eval y,clock⟩) (clock+1)) (r':={p.2 with rows:=dO p.2.rows ((dm env k').cells++[dm env y']) none}) hg hw hB fun hr kJ=>⟨R.sz,fun cs dC=>?_,fun yj=>(by rw[vN]at yj;cases yj),fun m' CB=>?_,fun c hc=>(by rw[vN]at hc;cases hc)⟩
   ·refine⟨undef,_,ι,.inr ⟨?_,rfl⟩,oG.2,oG.1,di.undef,fun _ _=>rfl⟩
    rcases ho with ho|ho<;>
    ·simp only[execOp,ho,Instr.mapUpdate,hu,Sem.run_bind,run_underlying ht,Result.andThen_ok,fC,Ma,hf,MapKept.run_setObj_map _ hb,Sem.run_pure]
   ·rcases List.mem_append.1 dC with h|h
    ·exact R.flat cs h
    ·rw[List.mem_singleton.1 h];exact Co k3 hyc
   ·rw[vN]at CB;simp only[Option.some.injEq,BK.map.injEq]at CB;subst CB
    refine⟨(R.map m vN).1,_,_,kJ,by simp[dO,fH],⟨fun cs dC=>?_,Lw hlen.2 _ _⟩,fun q cs hq=>?_⟩
    ·rcases List.mem_append.1 dC with h|h
     ·exact hlen.1 cs h
     ·rw[List.mem_singleton.1 h];simp[k2]
    ·rcases Nat.lt_or_ge q p.2.rows.length with ew|rl
     ·simp only[dO]at hq
      rw[List.getElem?_append_left ew]at hq
      obtain⟨en,kv,vv,q1,q2,q3,q4,q5⟩:=hM q cs hq
      exact⟨en,kv,vv,by rw[Array.getElem?_push_lt (by omega)];rw[Array.getElem?_eq_getElem (by omega)]at q1;simpa using q1,q2,q3,hr _ _ q4,hr _ _ q5⟩
     ·simp only[dO]at hq
      rw[List.getElem?_append_right rl]at hq
      have Ox:q=p.2.rows.length:=by
       have:=(List.getElem?_eq_some_iff.1 hq).1
       simp at this;omega
      subst Ox
      simp at hq;subst hq
      exact⟨⟨a.eval k,a.eval y,clock⟩,_,_,by rw[<-fH];simp,pk1,pk2,hr _ _ rk,hr _ _ ry⟩
  ·simp only[Nat.zero_add]at k4 Cx hf ⊢
   obtain⟨L6,_,MS,heq⟩:=C6 k4
   simp only[Nat.sub_zero]at MS
   obtain⟨Sa,kv,vv,q1,q2,_,q4,_⟩:=hM j L6 MS
   have IV:Sa=en:=by
    have h1:es.toList[j]? =some Sa:=by simpa using q1
    rw[he]at h1;injection h1 with h1;exact h1.symm
   subst IV
   have dJ:=stays (w:=w) hK k1 rk q2 q4 heq
   have oG:=S.IL (ob:=.map (es.modify j fun e=>{e with key:=a.eval k,val:=a.eval y}) clock) (r':={p.2 with rows:=dO p.2.rows ((dm env k').cells++[dm env y']) (some j)}) hg hw hB fun hr kJ=>⟨R.sz,fun cs dC=>?_,fun yj=>(by rw[vN]at yj;cases yj),fun m' CB=>?_,fun c hc=>(by rw[vN]at hc;cases hc)⟩
   ·refine⟨undef,_,ι,.inr ⟨?_,rfl⟩,oG.2,oG.1,di.undef,fun _ _=>rfl⟩
    rcases ho with ho|ho<;>
    ·simp only[execOp,ho,Instr.mapUpdate,hu,Sem.run_bind,run_underlying ht,Result.andThen_ok,fC,Ma,hf,q1,Option.map_some,Option.getD_some,dJ,MapKept.run_setObj_map _ hb,Sem.run_pure]
   ·rcases List.mem_or_eq_of_mem_set dC with h|h
    ·exact R.flat cs h
    ·rw[h];exact Co k3 hyc
   ·rw[vN]at CB;simp only[Option.some.injEq,BK.map.injEq]at CB;subst CB
    have iA:=(List.getElem?_eq_some_iff.1 MS).1
    refine⟨(R.map m vN).1,_,_,kJ,by simp[dO,fH],⟨fun cs dC=>?_,FN hlen.2 _ _ _⟩,fun q cs hq=>?_⟩
    ·rcases List.mem_or_eq_of_mem_set dC with h|h
     ·exact hlen.1 cs h
     ·rw[h];simp[k2]
    ·simp only[dO,List.getElem?_set]at hq
     split at hq
     ·rename_i Rw
      subst Rw
      (try rw[if_pos iA]at hq)
      injection hq with hq;subst hq
      exact⟨{Sa with key:=a.eval k,val:=a.eval y},_,_,by rw[Array.getElem?_modify];simp[q1],pk1,pk2,hr _ _ rk,hr _ _ ry⟩
     ·rename_i Rw
      obtain⟨en,kv,vv,q1,q2,q3,q4,q5⟩:=hM q cs hq
      exact⟨en,kv,vv,by rw[Array.getElem?_modify];simp[Rw,q1],q2,q3,hr _ _ q4,hr _ _ q5⟩
 ·cases hv
theorem Pm {t t':TypeId} {x k:Operand} {m:MK} {z:K} {x' k':O} {g':Rows} (S:gJ P hs D ι g w) (E:cI P w D ι env a) (ho:o.op=.call {callee:=.builtin .delete,args:= #[x,k],argTypes:= #[t,t']}) (hc:tt P t=some (m,z)) (hx:cO P x=some x') (hk:cO P k=some k')
  (hv:bK (.del m) [dm env x',dm env k'] g=some g'):D6 P hs a o w D ι id .undef g':=by
 obtain⟨kt,e,i,zv,ht,hi,mW,UC,hK⟩:=rZ hc
 simp only[bK,Option.bind_eq_some_iff]at hv
 obtain⟨p,hp,fi,Cx,hv⟩:=hv
 split at hv
 ·rename_i hw
  simp only[Option.some.injEq]at hv;subst hv
  obtain⟨B,hu,hg,hB,vN,es,clock,hb,fH,hlen,hM⟩:=AN S (dw E hx) hp
  have rk:=dw E hk
  obtain⟨Ma,res,hf,hF⟩:=w6 (B:=B) hK rk fH hM Cx
  obtain⟨k1,k2,k3,k4⟩:=xC Cx
  obtain⟨B',dM,R,_⟩:=S.row p.1 p.2 hg
  rw[hB]at dM;injection dM with dM;subst dM
  have fC:(getObj B.b).run P w=.ok (.map es clock) w:=MapKept.run_getObj_map hb
  have go:∀ob,(Builtin.delete_ #[t,t'] o.type #[a.eval x,a.eval k]).run P w=.ok (.tuple #[]) {w with heap:=w.heap.setIfInBounds B.b ob}->(execOp a.eval o).run P w=.ok (.value undef) {w with heap:=w.heap.setIfInBounds B.b ob}:=fun ob h=>by
   simp only[execOp,ho,resolve,Sem.run_bind,Sem.run_pure,Result.andThen_ok,invoke,builtin,Array.map]
   simp[h,undef]
  rcases hF with⟨rfl,rfl⟩|⟨j,en,rfl,he,rfl⟩
  ·have oG:=S.IL (ob:=.map es clock) (r':={p.2 with rows:=dL p.2.rows none}) hg hw hB fun hr kJ=>⟨R.sz,R.flat,fun yj=>(by rw[vN]at yj;cases yj),fun m' CB=>?_,fun c hc=>(by rw[vN]at hc;cases hc)⟩
   ·refine⟨undef,_,ι,.inl (go _ ?_),oG.2,oG.1,di.undef,fun _ _=>rfl⟩
    simp[Builtin.delete_,hu,run_underlying ht,fC,Ma,hf,MapKept.run_setObj_map _ hb]
   ·rw[vN]at CB;simp only[Option.some.injEq,BK.map.injEq]at CB;subst CB
    exact⟨(R.map m vN).1,_,_,kJ,fH,hlen,fun q cs hq=>by
     obtain⟨en,kv,vv,q1,q2,q3,q4,q5⟩:=hM q cs hq
     exact⟨en,kv,vv,q1,q2,q3,hr _ _ q4,hr _ _ q5⟩⟩
  ·simp only[Nat.zero_add]at hf ⊢
   have iA:j<es.size:=by have:=(List.getElem?_eq_some_iff.1 he).1;simpa using this
   have oG:=S.IL (ob:=.map (es.eraseIdxIfInBounds j) clock) (r':={p.2 with rows:=dL p.2.rows (some j)}) hg hw hB fun hr kJ=>⟨R.sz,fun cs dC=>R.flat cs (List.mem_of_mem_eraseIdx dC),fun yj=>(by rw[vN]at yj;cases yj),fun m' CB=>?_,fun c hc=>(by rw[vN]at hc;cases hc)⟩
   ·refine⟨undef,_,ι,.inl (go _ ?_),oG.2,oG.1,di.undef,fun _ _=>rfl⟩
    simp[Builtin.delete_,hu,run_underlying ht,fC,Ma,hf,MapKept.run_setObj_map _ hb]
   ·rw[vN]at CB;simp only[Option.some.injEq,BK.map.injEq]at CB;subst CB
    have he2:∀q,(es.eraseIdxIfInBounds j)[q]? =(es.toList.eraseIdx j)[q]? :=fun q=>by
     unfold Array.eraseIdxIfInBounds
     rw[dif_pos iA,<-Array.getElem?_toList,Array.toList_eraseIdx]
    refine⟨(R.map m vN).1,_,_,kJ,by simp[dL,Array.eraseIdxIfInBounds,iA,List.length_eraseIdx,<-fH],⟨fun cs dC=>hlen.1 cs (List.mem_of_mem_eraseIdx dC),Iz hlen.2 iA⟩,fun q cs hq=>?_⟩
    simp only[dL,List.getElem?_eraseIdx]at hq
    split at hq
    ·rename_i ew
     obtain⟨en,kv,vv,q1,q2,q3,q4,q5⟩:=hM q cs hq
     exact⟨en,kv,vv,by rw[he2,List.getElem?_eraseIdx,if_pos ew];simpa using q1,q2,q3,hr _ _ q4,hr _ _ q5⟩
    ·rename_i ew
     obtain⟨en,kv,vv,q1,q2,q3,q4,q5⟩:=hM (q+1) cs hq
     exact⟨en,kv,vv,by rw[he2,List.getElem?_eraseIdx,if_neg ew];simpa using q1,q2,q3,hr _ _ q4,hr _ _ q5⟩
 ·cases hv
end
end Go.Proofs.YtgoelphibofcmaaGreat.V
