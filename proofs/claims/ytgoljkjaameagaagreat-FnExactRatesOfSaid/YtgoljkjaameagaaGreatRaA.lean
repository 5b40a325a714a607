/- A small language in which the program's functions are read by value: its values, its operations, its code, and how the program's code is brought into it. -/
import Derived.WalkKit
import Derived.WalkSpells
import Derived.WalkLawsBesides
import Derived.Lib.Hide
import Derived.Great.BuildSlice
import Derived.Conc.LoneCalls
import Derived.MapKept
import Derived.WideKeyRuns
set_option linter.unusedVariables false
set_option linter.unusedSimpArgs false
set_option maxRecDepth 100000
set_option maxHeartbeats 16000000
namespace Go.Proofs.YtgoljkjaameagaaGreat.V
open Go.RowKit
structure Id where
  site:Nat
  bj:Nat
  deriving DecidableEq,Repr
inductive TS where
  |tI|tB|tS
  deriving Repr,DecidableEq
structure MK where
  ka:Bool
  ts:List TS
  deriving Repr,DecidableEq
inductive AV where
  |int (k:IntKind) (n:Int)
  |bool (b:Bool)
  |str (s:ByteArray)
  |cu|gO|jb
  |sl (rows:List (List AV))
  |own (id:Id) (off len:Nat)
  |ptr (id:Id) (i off:Nat)
  |dn (cs:List AV)
  |agg (cs:List AV)
  |iD (vs:List AV)
  |fn (f:Nat) (db:List AV)
  |map (id:Id) (m:MK)
  |ji
  |ud (f:Nat) (first:List AV)
  |rO (id:Id)
  deriving Inhabited
def AV.undef:AV:=.iD []
def AV.cell:AV->Bool
  | .agg _| .iD _=>false
  |_=>true
def AV.cells:AV->List AV
  | .agg cs=>cs
  |v=>[v]
inductive K where
  |int (k:IntKind) (n:Int)
  |bool (b:Bool)
  |str (l:List UInt8)
  |cu|gO|jb|ji
  deriving Repr,DecidableEq
def K.val:K->Value
  | .int k n=>.int k n
  | .bool b=>.bool b
  | .str l=>.string ⟨l.toArray⟩
  | .cu=>.slice none 0 0
  | .gO=>.pointer none
  | .jb=>.nilFunc
  | .ji=>.map none
def K.av:K->AV
  | .int k n=>.int k n
  | .bool b=>.bool b
  | .str l=>.str ⟨l.toArray⟩
  | .cu=>.cu
  | .gO=>.gO
  | .jb=>.jb
  | .ji=>.ji
def Hc:Value->Option K
  | .int k n=>some (.int k n)
  | .bool b=>some (.bool b)
  | .string s=>some (.str s.data.toList)
  | .slice none 0 0=>some .cu
  | .pointer none=>some .gO
  | .nilFunc=>some .jb
  | .map none=>some .ji
  |_=>none
inductive O where
  |t (n:Nat)
  |k (c:K)
  |ka (cs:List K)
  |f (n:Nat)
  deriving Repr,DecidableEq
inductive MQ where
  |new (m:MK)
  |look (m:MK) (ok:Bool) (zero:K)
  |len (m:MK)
  deriving Repr,DecidableEq
inductive MW where
  |set (m:MK)
  |del (m:MK)
  deriving Repr,DecidableEq
inductive gz where
  |dq (x:O)
  |pick (c a b:O)
  |new (zero:List K)
  |box (x:O)
  |build (zero:List K) (parts:List (Nat×Nat×O))
  |nh (sz len:Nat) (parts:List O)
  |load (agg:Bool) (n:Nat) (a:O)
  |store (n:Nat) (a x:O)
  |Bt (x:O)
  |bin (op:BinOp) (k:IntKind) (x y:O)
  |sh (left:Bool) (x y:O)
  |Lx (op:BinOp) (x y:O)
  |Ot (neg:Bool) (t:TS) (x y:O)
  |S3 (neg:Bool) (ts:List TS) (x y:O)
  |Re (neg Ml:Bool) (x:O)
  |S4 (neg:Bool) (x:O)
  |not (x:O)
  |neg (x:O)
  |conv (k:IntKind) (x:O)
  |Fs (x:O)
  |slice (sz:Nat) (x:O) (lo hi:Option O)
  |AA (x:O) (lo hi:Option O)
  |gm (off:Nat) (x:O)
  |field (agg:Bool) (off n:Nat) (x:O)
  |dL (sz:Nat) (x i:O)
  |Me (len sz:Nat) (x i:O)
  |Mh (x i:O)
  |eO (agg:Bool) (len n:Nat) (x i:O)
  |extract (i:Nat) (x:O)
  |len (x:O)
  |Mr (x:O)
  |append (sz:Nat) (x y:O)
  |copy (sz:Nat) (x y:O)
  |clear (zero:List K) (x:O)
  |My (f:Nat) (db:List O)
  |Mz (f:Nat) (first:List O)
  |j4 (zero:List K) (len cap:O)
  |call (f:Nat) (args:List O)
  |tN (x:O) (args:List O)
  |mq (q:MQ) (xs:List O)
  |mw (q:MW) (xs:List O)
  |J3 (x:O)
  |JQ (x:O)
  |snd (x y:O)
  |PJ (x:O)
  |bad
  deriving Repr,DecidableEq
structure bt where
  dst:Option Nat
  op:gz
  guard:Option (Nat×Bool)
  site:Nat
  hid:List Nat
  deriving Repr,DecidableEq
def q (d:Nat) (op:gz) (s:Nat):bt:=⟨some d,op,none,s,[]⟩
inductive VC where
  |skip
  |eT (draw:Bool) (ops:List bt)
  |seq (a b:VC)
  |cond (c:O) (x y:VC)
  |block (id:Nat) (c:VC)
  |loop (c:VC)
  |exit (id:Nat)
  |ret
  |one (o:bt) (c:VC)
  |both (a b:VC)
  |loc (t s:Nat) (y:O) (c:VC)
  |Ol (ops:List bt)
  deriving Repr,DecidableEq
inductive oH where
  |tmp (t:Nat)
  |cell (agg:Bool) (n:Nat) (t:Nat)
  deriving Repr,DecidableEq
structure AP where
  ntmps:Nat
  yW:Nat
  body:VC
  res:List oH
  deriving Repr,DecidableEq
def fQ (P:Program) (f:Nat):Bool:=
  match P.funcs[f]? with
  |some fn=>fn.body.isSome&& !(fn.name== "runtime.NumGoroutine")
  |none=>false
def cO (P:Program):Operand->Option O
  | .tmp t=>some (.t t)
  | .const (.agg cs)=>(cs.toList.mapM Hc).map O.ka
  | .const v=>(Hc v).map O.k
  | .global _=>none
  | .func f=>if fQ P f then some (.f f)else none
def jL (P:Program) (t:TypeId):Option (List K):=
  match P.info? t with
  |some i=>match i.zero with
    |some v=>if v.cells.size=i.size then v.cells.toList.mapM Hc else none
    |none=>none
  |none=>none
def ep (P:Program) (t:TypeId):Option Nat:=(P.info? t).map (·.size)
def n9 (P:Program) (t:TypeId):Option Bool:=
  match P.underlying t with
  |some (.struct _)|some (.array _ _)=>some true
  |some _=>some false
  |none=>none
inductive TW where
  |sc (t:TS)|ag (ts:List TS)
  deriving Repr,DecidableEq
def fw (P:Program) (t:TypeId):Option TS:=
  match P.underlying t with
  |some .bool=>some .tB
  |some (.int _)=>some .tI
  |some .string=>some .tS
  |_=>none
def DJ (P:Program) (inner:List Field->Option (List TS)):Nat->List Field->Option (List TS)
  |_,[]=>some []
  |off,f::r=>
    if f.offset=off/\f.name≠ "_" then
      match fw P f.type with
      |some t=>if n9 P f.type=some false then(DJ P inner (off+1) r).map (t::·)else none
      |none=>match P.underlying f.type with
        |some (.struct fs)=>if !P.stoodInHeld f.type then match inner fs.toList with
          |some ts=>if ep P f.type=some ts.length/\ts≠[]then(DJ P inner (off+ts.length) r).map (ts++·)else none
          |none=>none else none
        |_=>none
    else none
def eK (P:Program):Nat->Nat->List Field->Option (List TS)
  |0,_,[]=>some []
  |0,_,_::_=>none
  |d+1,off,fs=>DJ P (eK P d 0) off fs
def Ub (P:Program) (t:TypeId):Option TW:=
  match fw P t with
  |some s=>some (.sc s)
  |none=>match P.underlying t with
    |some (.struct fs)=>if !P.stoodInHeld t&& !P.eqGuardType P.depth t then(eK P 4 0 fs.toList).map TW.ag else none
    |_=>none
def s5 (P:Program) (fs:Array Field):List (Nat×O)->Option (List (Nat×Nat×O))
  |[]=>some []
  |(i,x)::r=>match fs[i]? with
    |some f=>match ep P f.type with
      |some n=>(s5 P fs r).map ((f.offset,n,x)::·)
      |none=>none
    |none=>none
def s8 (P:Program) (ps:Array (Nat×Operand)):Option (List (Nat×O)):=ps.toList.mapM fun(i,x)=>(cO P x).map (i,·)
def rM (P:Program):Option Operand->Option (Option O)
  |none=>some none
  |some x=>(cO P x).map some
def s6 (P:Program) (neg:Bool) (t:TypeId) (x y:Operand):Option gz:=
  match y with
  | .const (.slice none 0 0)=>match P.underlying t with
    |some (.slice _)=>(cO P x).map (gz.Re neg false)
    |_=>none
  | .const .nilFunc=>match P.underlying t with
    |some (.func ..)=>(cO P x).map (gz.Re neg true)
    |_=>none
  | .const (.pointer none)=>match P.underlying t with
    |some (.pointer _)=>(cO P x).map (gz.S4 neg)
    |_=>none
  |_=>match Ub P t with
    |some (.sc s)=>do pure (.Ot neg s (<-cO P x) (<-cO P y))
    |some (.ag ts)=>do pure (.S3 neg ts (<-cO P x) (<-cO P y))
    |_=>none
def vH (P:Program) (op:BinOp) (t:TypeId) (x y:Operand):Option gz:=
  match op with
  | .eql=>s6 P false t x y
  | .neq=>s6 P true t x y
  | .shl=>do pure (.sh true (<-cO P x) (<-cO P y))
  | .shr=>do pure (.sh false (<-cO P x) (<-cO P y))
  |op=>match P.underlying t with
    |some (.int k)=>do pure (.bin op k (<-cO P x) (<-cO P y))
    |some .string=>do pure (.Lx op (<-cO P x) (<-cO P y))
    |_=>none
def s7 (P:Program) (t:TypeId):Option (MK×K):=
  match P.underlying t with
  |some (.map k e)=>match n9 P e,(P.info? e).bind (·.zero),fw P k,P.underlying k with
    |some false,some zv,some s,_=>(Hc zv).map fun z=>(⟨false,[s]⟩,z)
    |some false,some zv,none,some (.struct fs)=>match eK P 4 0 fs.toList,Hc zv with
      |some ts,some z=>if !P.stoodInHeld k/\fs.toList.all (fun f=>(fw P f.type).isSome)then some (⟨true,ts⟩,z)else none
      |_,_=>none
    |_,_,_,_=>none
  |_=>none
def nK (P:Program) (c:Call):Option gz:=
  match c.callee with
  | .builtin .len=>match c.args.toList,c.argTypes.toList with
    |[x],[t]=>match P.underlying t with
      |some (.slice _)=>(cO P x).map gz.len
      |some .string=>(cO P x).map gz.Mr
      |some (.map _ _)=>match s7 P t,cO P x with
        |some (m,_),some x=>some (.mq (.len m) [x])
        |_,_=>none
      |some (.chan _ _)=>(cO P x).map gz.JQ
      |_=>none
    |_,_=>none
  | .builtin .append=>match c.args.toList,c.argTypes.toList with
    |[x,y],[t,u]=>match P.underlying t with
      |some (.slice e)=>match ep P e,jL P e,P.info? e with
        |some (sz+1),some _,some i=>if i.bytes<=32768/\t=u then do pure (.append (sz+1) (<-cO P x) (<-cO P y))else none
        |_,_,_=>none
      |_=>none
    |_,_=>none
  | .builtin .clear=>match c.args.toList,c.argTypes.toList with
    |[x],[t]=>match P.underlying t with
      |some (.slice e)=>match ep P e,jL P e with
        |some (_+1),some z=>(cO P x).map (gz.clear z)
        |_,_=>none
      |_=>none
    |_,_=>none
  | .value (.func f)=>if fQ P f then(c.args.toList.mapM (cO P)).map (gz.call f)else none
  | .value (.tmp t)=>(c.args.toList.mapM (cO P)).map (gz.tN (.t t))
  | .builtin .delete=>match c.args.toList,c.argTypes.toList with
    |[x,k],[t,_]=>match s7 P t,cO P x,cO P k with
      |some (m,_),some x,some k=>some (.mw (.del m) [x,k])
      |_,_,_=>none
    |_,_=>none
  | .builtin .copy=>match c.args.toList,c.argTypes.toList with
    |[x,y],[t,_]=>match P.underlying t with
      |some (.slice e)=>match ep P e with
        |some (sz+1)=>do pure (.copy (sz+1) (<-cO P x) (<-cO P y))
        |_=>none
      |_=>none
    |_,_=>none
  |_=>none
def rn (P:Program) (o:Op):Option gz:=
  match o with
  | .move x| .assign x=>(cO P x).map gz.dq
  | .pick c a b=>do pure (.pick (<-cO P c) (<-cO P a) (<-cO P b))
  | .alloc e=>(jL P e).map gz.new
  | .box _ x=>(cO P x).map gz.box
  | .load t a=>do pure (.load (<-n9 P t) (<-ep P t) (<-cO P a))
  | .store t a x=>do pure (.store (<-ep P t) (<-cO P a) (<-cO P x))
  | .nilCheck x=>(cO P x).map gz.Bt
  | .binOp op t x y _=>vH P op t x y
  | .unOp .not _ x=>(cO P x).map gz.not
  | .unOp .neg _ x=>(cO P x).map gz.neg
  | .convert s d x=>match P.underlying s,P.underlying d with
    |some (.int _),some (.int k)=>(cO P x).map (gz.conv k)
    |some .string,some .string=>(cO P x).map gz.Fs
    |_,_=>none
  | .slice t x lo hi none=>match P.underlying t with
    |some (.slice e)=>do
      pure (.slice (<-ep P e) (<-cO P x) (<-rM P lo) (<-rM P hi))
    |some .string=>do pure (.AA (<-cO P x) (<-rM P lo) (<-rM P hi))
    |_=>none
  | .fieldAddr s x i=>match P.underlying s with
    |some (.struct fs)=>match fs[i]? with
      |some f=>match ep P f.type with
        |some (_+1)=>(cO P x).map (gz.gm f.offset)
        |_=>none
      |none=>none
    |_=>none
  | .field s x i=>match P.underlying s with
    |some (.struct fs)=>match fs[i]? with
      |some f=>do pure (.field (<-n9 P f.type) f.offset (<-ep P f.type) (<-cO P x))
      |none=>none
    |_=>none
  | .indexAddr t x i=>match P.underlying t with
    |some (.slice e)=>match ep P e with
      |some (m+1)=>do pure (.dL (m+1) (<-cO P x) (<-cO P i))
      |_=>none
    |some (.array len e)=>match ep P e with
      |some (m+1)=>do pure (.Me len (m+1) (<-cO P x) (<-cO P i))
      |_=>none
    |_=>none
  | .index t x i=>match P.underlying t with
    |some .string=>do pure (.Mh (<-cO P x) (<-cO P i))
    |some (.array len e)=>do pure (.eO (<-n9 P e) len (<-ep P e) (<-cO P x) (<-cO P i))
    |_=>none
  | .extract x i=>(cO P x).map (gz.extract i)
  | .build t ps=>match P.underlying t with
    |some (.struct fs)=>
      match jL P t,s8 P ps with
      |some z,some l=>
        if fs.all (fun f=>(P.info? f.type).isSome)then(s5 P fs l).map (gz.build z)else none
      |_,_=>none
    |some (.array _ e)=>
      match jL P t,s8 P ps,ep P e with
      |some z,some l,some n=>some (.build z (l.map fun(i,x)=>(i*n,n,x)))
      |_,_,_=>none
    |_=>none
  | .buildSlice t len ps=>match P.underlying t with
    |some (.slice e)=>match ep P e,jL P e,s8 P ps with
      |some (sz+1),some _,some l=>
        if len*(sz+1)<=4096/\l.map (·.1)=List.range len then some (.nh (sz+1) len (l.map (·.2)))else none
      |_,_,_=>none
    |_=>none
  | .makeFunc (.func f) first db=>
    if first= #[]/\fQ P f then(db.toList.mapM (cO P)).map (gz.My f)else if db= #[]/\fQ P f then(first.toList.mapM (cO P)).map (gz.Mz f)else none
  | .makeSlice t l c=>match P.underlying t with
    |some (.slice e)=>match ep P e,jL P e,P.info? e with
      |some (_+1),some z,some i=>if i.bytes<=32768 then do pure (.j4 z (<-cO P l) (<-cO P c))else none
      |_,_,_=>none
    |_=>none
  | .call c=>nK P c
  | .makeChan t n=>match P.underlying t with
    |some (.chan _ e)=>match P.info? e with
      |some i=>if i.bytes<=32768 then(cO P n).map gz.J3 else none
      |none=>none
    |_=>none
  | .send x y=>do pure (.snd (<-cO P x) (<-cO P y))
  | .recv t x false=>match P.underlying t with
    |some (.chan _ e)=>match (P.info? e).bind (·.zero)with
      |some _=>(cO P x).map gz.PJ
      |none=>none
    |_=>none
  | .makeMap t none=>match s7 P t with
    |some (m,_)=>some (.mq (.new m) [])
    |none=>none
  | .lookup t x k ok=>match s7 P t,cO P x,cO P k with
    |some (m,z),some x,some k=>some (.mq (.look m ok z) [x,k])
    |_,_,_=>none
  | .mapUpdate t x k v| .insert t x k v=>match s7 P t,cO P x,cO P k,cO P v with
    |some (m,_),some x,some k,some v=>some (.mw (.set m) [x,k,v])
    |_,_,_,_=>none
  | .makeInterface _ _=>some .bad
  | .panic _=>some .bad
  |_=>none
inductive TV where
  |pure|look|make|write
  deriving DecidableEq,Repr
def gz.cls:gz->TV
  | .new _| .box _| .nh .. | .j4 .. | .mq (.new _) _| .J3 _=>.make
  | .load .. | .dL .. | .slice .. | .call .. | .tN .. | .mq .. | .JQ _=>.look
  | .store .. | .append .. | .copy .. | .clear .. | .mw .. | .snd .. | .PJ _=>.write
  |_=>.pure
def clash:TV->TV->Bool
  | .pure,_|_,.pure=>false
  | .write,_|_,.write=>true
  |_,_=>false
def jD (ops:Array Oper):Array Nat:=Region.before ops
def qW:gz->Bool:=fun o=>o.cls==.make||o.cls==.write
def gz.l6:gz->Bool
  | .call .. | .tN .. =>true
  |_=>false
def Ds (ops:Array Oper) (o:Oper):Option (Option (Nat×Bool)):=
  match o.guard with
  |none=>some none
  |some (i,b)=>match (ops[i]?).bind (·.dst)with
    |some t=>some (some (t,b))
    |none=>none
def mu (P:Program) (ops:Array Oper) (nt site0:Nat) (draw mk:Bool) (bs:Array Nat) (hidden:List (Nat×Bool)) (j:Nat) (o:Oper):Option bt:=do
  let v <-rn P o.op
  let g <-Ds ops o
  if (o.dst.all fun d=>decide (d<nt))then
    pure {dst:=o.dst,op:=v,guard:=g,site:=site0+j,hid:=if draw then(hidden.filter fun(i,m)=>m&& !(bs.getD j 0).testBit i&&(i !=j||mk&&v.l6)).map fun(i,_)=>site0+i else[]}
  else none
def allM {α:Type} (f:Nat->Oper->Option α):List Oper->Nat->Option (List α)
  |[],_=>some []
  |o::r,j=>do pure ((<-f j o)::(<-allM f r (j+1)))
def gP:O->List Nat
  | .t n=>[n]
  |_=>[]
def wN:Option O->List Nat
  |some x=>gP x
  |none=>[]
def gz.gH:gz->List Nat
  | .clear _ x| .dq x| .box x| .load _ _ x| .Bt x| .Re _ _ x| .S4 _ x| .not x| .neg x| .conv _ x| .Fs x| .gm _ x| .field _ _ _ x| .extract _ x| .len x| .Mr x| .J3 x| .JQ x| .PJ x=>gP x
  | .pick c a b=>gP c++gP a++gP b
  | .new _| .bad=>[]
  | .build _ ps=>ps.flatMap fun(_,_,x)=>gP x
  | .nh _ _ ps=>ps.flatMap gP
  | .store _ a x| .snd a x=>gP a++gP x
  | .bin _ _ x y| .sh _ x y| .Lx _ x y| .Ot _ _ x y| .S3 _ _ x y| .dL _ x y| .Me _ _ x y| .Mh x y| .eO _ _ _ x y| .append _ x y| .copy _ x y| .j4 _ x y=>gP x++gP y
  | .slice _ x lo hi| .AA x lo hi=>gP x++wN lo++wN hi
  | .My _ l| .Mz _ l| .call _ l| .mq _ l| .mw _ l=>l.flatMap gP
  | .tN x l=>gP x++l.flatMap gP
def bt.gH (v:bt):List Nat:=v.op.gH++(match v.guard with|some (t,_)=>[t]|none=>[])
def tF (x y:bt):Bool:=
  (match x.dst with
   |some d=> !y.gH.contains d&&y.dst !=some d
   |none=>true)&&
  (match y.dst with
   |some d=> !x.gH.contains d
   |none=>true)
def bt.makes (v:bt):Bool:=qW v.op||v.op.l6&&v.hid.contains v.site
def FE (x y:bt):Bool:=
  tF x y&& !clash x.op.cls y.op.cls&&(!x.makes||y.hid.contains x.site)&&(!y.makes||x.hid.contains y.site)&&x.site !=y.site
def Fw (ops:Array Oper):Bool:=ops.toList.zipIdx.all fun(o,j)=>o.after.all fun e=> !Region.binds .any e||decide (e.on<j)
def oP (ops:Array Oper) (vl:List bt) (bs:Array Nat):Bool:=
  Fw ops&&vl.zipIdx.all fun(y,j)=>vl.zipIdx.all fun(x,i)=> !(decide (i<j))||(bs.getD j 0).testBit i||FE x y
def rN (P:Program) (nt site0:Nat) (ops:Array Oper) (draw mk:Bool):Option (List bt):=
  let bs:=if draw then jD ops else #[]
  let hidden:=if draw then ops.toList.zipIdx.map fun(o,i)=>(i,((rn P o.op).map fun v=>qW v||mk&&v.l6).getD false)else[]
  match allM (mu P ops nt site0 draw mk bs hidden) ops.toList 0 with
  |some vl=>if !draw||oP ops vl bs then some vl else none
  |none=>none
def lh (v:bt):Bool:= !v.op.l6&&v.op.cls !=.write
def yq (x y:bt):Bool:=tF x y&&x.op.cls==.pure||FE x y&&lh x&&lh y
def qI (ops:Array Oper) (vl:List bt) (bs:Array Nat) (listed:Array Bool) (i:Nat):Bool:=
  match vl[i]? with
  |some x=>(List.range ops.size).all fun j=>listed.getD j false||j==i||(bs.getD j 0).testBit i||(match vl[j]? with|some y=>yq x y|none=>false)
  |none=>false
def NO (vl:List bt) (x:bt):Option (Nat×Nat×O):=
  match x.op,x.guard with
  | .append _ (.t t) y,none=>match vl.find? fun v=>v.dst==some t&&v.op.cls==.make with
    |some v=>some (t,v.site,y)
    |none=>none
  |_,_=>none
def FD (s:Nat) (x y:bt):Bool:=tF x y&&lh y&&y.hid.contains s&&y.hid.contains x.site&&y.site !=s&&y.site !=x.site
def oR (ops:Array Oper) (vl:List bt) (bs:Array Nat) (listed:Array Bool) (i s:Nat):Bool:=
  match vl[i]? with
  |some x=>(List.range ops.size).all fun j=>listed.getD j false||j==i||(bs.getD j 0).testBit i||(match vl[j]? with|some y=>FD s x y|none=>false)
  |none=>false
def Py (ops:Array Oper) (vl:List bt) (bs:Array Nat) (listed:Array Bool) (i:Nat):Option (Nat×Nat×Nat×O×bt):=
  match vl[i]? with
  |some x=>match NO vl x with
    |some (t,s,y)=>if oR ops vl bs listed i s then some (i,t,s,y,x)else none
    |none=>none
  |none=>none
def Bn:List VC->Option VC
  |[]=>none
  |[c]=>some c
  |c::r=>(Bn r).map (VC.both c)
def xn (ops:Array Oper) (vl:List bt) (bs:Array Nat):Nat->Array Bool->Option VC
  |0,listed=>
    match Region.ready .any ops listed with
    |[]=>some (.eT false [])
    |_::_=>none
  |n+1,listed=>
    match Region.ready .any ops listed with
    |[]=>some (.eT false [])
    |r::rs=>let rdy:=r::rs
      match rdy.find? (qI ops vl bs listed)with
      |some i=>match vl[i]? with
        |some vo=>(xn ops vl bs n (listed.setIfInBounds i true)).map (VC.one vo)
        |none=>none
      |none=>match rdy.findSome? (Py ops vl bs listed)with
        |some (i,t,s,y,vo)=>(xn ops vl bs n (listed.setIfInBounds i true)).map fun c=>VC.loc t s y (.one vo c)
        |none=>match rdy.mapM fun i=>(vl[i]?).bind fun vo=>(xn ops vl bs n (listed.setIfInBounds i true)).map (VC.one vo)with
          |some l=>Bn l
          |none=>none
def NM:Op->Bool
  | .send .. | .recv .. =>true
  |_=>false
def Q7 (P:Program) (nt site0:Nat) (ops:Array Oper) (draw:Bool) (mode:Nat):Option VC:=
  if draw&&mode==2 then
    match allM (mu P ops nt site0 true false (jD ops) (ops.toList.zipIdx.map fun(o,i)=>(i,((rn P o.op).map qW).getD false))) ops.toList 0 with
    |some vl=>xn ops vl (jD ops) ops.size (Array.replicate ops.size false)
    |none=>none
  else if !draw&&ops.any (fun o=>NM o.op)then(rN P nt site0 ops false false).map VC.Ol
  else(rN P nt site0 ops draw (mode==1)).map (VC.eT draw)
def wI (md:List (Nat×Nat)) (id:Nat):Nat:=
  match md with
  |[]=>0
  |(i,m)::r=>if i=id then m else wI r id
def jK (P:Program) (md:List (Nat×Nat)) (nt vR:Nat):Code->Option VC
  | .skip=>some .skip
  | .region id ops draw=>Q7 P nt ((vR*1000+id)*1000) ops draw (wI md id)
  | .seq a b=>do pure (.seq (<-jK P md nt vR a) (<-jK P md nt vR b))
  | .cond c x y=>do pure (.cond (<-cO P c) (<-jK P md nt vR x) (<-jK P md nt vR y))
  | .block id c=>(jK P md nt vR c).map (VC.block id)
  | .loop c=>(jK P md nt vR c).map VC.loop
  | .exit id=>some (.exit id)
  | .ret=>some .ret
  |_=>none
def Dt (P:Program) (r:ResultVar):Option oH:=
  match r with
  | .tmp t=>some (.tmp t)
  | .cell a t=>do pure (.cell (<-n9 P t) (<-ep P t) a)
def xG (P:Program) (f:Nat) (md:List (Nat×Nat)):Option AP:=
  match P.funcs[f]? with
  |some fn=>match fn.body with
    |some c=>do
      let b <-jK P md fn.ntmps f c
      let r <-fn.results.toList.mapM (Dt P)
      if fn.params.size+fn.nfree<=fn.ntmps then pure {ntmps:=fn.ntmps,yW:=fn.params.size+fn.nfree,body:=b,res:=r}else none
    |none=>none
  |none=>none
def mo (P:Program) (f:Nat):Option AP:=xG P f []
structure Row where
 w:Bool
 sz:Nat
 rows:List (List AV)
abbrev Rows:=Id->Option Row
structure ax where
 get:Rows
 next:Nat
abbrev Env:=Nat->AV
def upd (env:Env):Option Nat->AV->Env
 |some d,v=>fun t=>if t=d then v else env t
 |none,_=>env
inductive Ex where
 |normal
 |exit (id:Nat)
 |ret
 deriving DecidableEq
def dc (env:Env):O->AV
 | .t n=>env n
 | .k c=>c.av
 | .ka cs=>.agg (cs.map K.av)
 | .f n=>.fn n []
def bR (g:Rows) (id:Id) (r:Row):Rows:=fun i=>if i=id then some r else g i
def cq (g:Rows) (id:Id):Rows:=fun i=>if i=id then none else g i
def fY:List Nat->Nat->Rows->Rows
 |[],_,g=>g
 |h::t,n,g=>fun id=>if (h::t).contains id.site=true/\id.bj=n then none else g id
def ro (g:Rows):Rows:=fun id=>(g id).map fun r=>{r with w:=false}
def part (agg:Bool) (n:Nat) (cs:List AV):Option AV:=
 if agg then(if n<=cs.length then some (.agg (cs.take n))else none)else cs.head?
def rowAt (g:Rows) (id:Id) (i:Nat):Option (List AV):=(g id).bind (·.rows[i]?)
def ld (g:Rows) (agg:Bool) (n:Nat):AV->Option AV
 | .ptr id i off=>(rowAt g id i).bind fun cs=>part agg n (cs.drop off)
 | .dn cs=>part agg n cs
 |_=>none
def dC:BinOp->IntKind->Int->Int->Option AV
 | .add,k,a,b=>some (.int k (k.wrap (a+b)))
 | .sub,k,a,b=>some (.int k (k.wrap (a-b)))
 | .mul,k,a,b=>some (.int k (k.wrap (a*b)))
 | .quo,k,a,b=>if b=0 then none else some (.int k (k.wrap (a.tdiv b)))
 | .rem,k,a,b=>if b=0 then none else some (.int k (a.tmod b))
 | .lss,_,a,b=>some (.bool (decide (a<b)))
 | .leq,_,a,b=>some (.bool (decide (a<=b)))
 | .gtr,_,a,b=>some (.bool (decide (b<a)))
 | .geq,_,a,b=>some (.bool (decide (b<=a)))
 | .and,k,a,b=>some (.int k (k.wrap (BitVec.ofInt k.bits a&&& BitVec.ofInt k.bits b).toNat))
 | .or,k,a,b=>some (.int k (k.wrap (BitVec.ofInt k.bits a|||BitVec.ofInt k.bits b).toNat))
 | .xor,k,a,b=>some (.int k (k.wrap (BitVec.ofInt k.bits a ^^^ BitVec.ofInt k.bits b).toNat))
 |_,_,_,_=>none
def ea (op:BinOp):AV->AV->Option AV
 | .int k a,.int k' b=>if k=k' then dC op k a b else none
 |_,_=>none
def gV (left:Bool):AV->AV->Option AV
 | .int k a,.int _ b=>if b<0 then none else some (.int k (if left then k.wrap (a*2 ^ min b.toNat k.bits)else a.fdiv (2 ^ min b.toNat k.bits)))
 |_,_=>none
def eo:BinOp->ByteArray->ByteArray->Option AV
 | .add,a,b=>if a.size+b.size<=9223372036854775807 then some (.str (a++b))else none
 | .lss,a,b=>some (.bool (Op.bytesLess a.toList b.toList))
 | .leq,a,b=>some (.bool (Op.bytesLess a.toList b.toList||(a.toList==b.toList)))
 | .gtr,a,b=>some (.bool !(Op.bytesLess a.toList b.toList||(a.toList==b.toList)))
 | .geq,a,b=>some (.bool !(Op.bytesLess a.toList b.toList))
 |_,_,_=>none
def cZ (op:BinOp):AV->AV->Option AV
 | .str a,.str b=>eo op a b
 |_,_=>none
def fX:TS->AV->AV->Option Bool
 | .tI,.int k a,.int k' b=>if k=k' then some (decide (a=b))else none
 | .tB,.bool a,.bool b=>some (a==b)
 | .tS,.str a,.str b=>some (decide (a=b))
 |_,_,_=>none
def eY:List TS->List AV->List AV->Option Bool
 |[],[],[]=>some true
 |t::ts,a::r,b::s=>match fX t a b,eY ts r s with
  |some x,some y=>some (x&&y)
  |_,_=>none
 |_,_,_=>none
def dr (neg b:Bool):Bool:=if neg then !b else b
def cX:AV->Option Bool
 | .cu=>some true
 | .own _ _ _=>some false
 | .sl (_::_)=>some false
 |_=>none
def cW:AV->Option Bool
 | .jb=>some true
 | .fn _ _=>some false
 |_=>none
def KQ:AV->Option Bool
 | .gO=>some true
 | .ptr .. | .dn _=>some false
 |_=>none
def ef (Ml:Bool) (x:AV):Option Bool:=if Ml then cW x else cX x
def dM (len:Nat):Option AV->Option Nat
 |none=>some len
 |some (.int _ n)=>if 0<=n/\n<=len then some n.toNat else none
 |_=>none
def dO (h:Nat):Option AV->Option Nat
 |none=>some 0
 |some (.int _ n)=>if 0<=n/\n<=h then some n.toNat else none
 |_=>none
def bP (g:Rows) (sz:Nat) (x:AV) (lo hi:Option AV):Option AV:=
 match x with
 | .cu=>(dM 0 hi).bind fun h=>(dO h lo).map fun _=>.cu
 | .sl rows=>(dM rows.length hi).bind fun h=>(dO h lo).bind fun l=>if ∀cs∈rows,cs.length=sz then some (.sl ((rows.drop l).take (h-l)))else none
 | .own id off len=>(g id).bind fun r=>(dM len hi).bind fun h=>(dO h lo).bind fun l=>if r.sz=sz then some (.own id (off+l) (h-l))else none
 |_=>none
def aX (x:AV) (lo hi:Option AV):Option AV:=
 match x with
 | .str s=>(dM s.size hi).bind fun h=>(dO h lo).map fun l=>.str (s.extract l h)
 |_=>none
def E8 (off:Nat):AV->Option AV
 | .ptr id i o=>some (.ptr id i (o+off))
 | .dn cs=>some (.dn (cs.drop off))
 |_=>none
def bL (g:Rows) (sz:Nat):AV->AV->Option AV
 | .sl rows,.int _ n=>if 0<=n then(rows[n.toNat]?).bind fun cs=>if cs.length=sz then some (.dn cs)else none else none
 | .own id off len,.int _ n=>if 0<=n/\n<len then(g id).bind fun r=>if r.sz=sz then some (.ptr id (off+n.toNat) 0)else none else none
 |_,_=>none
def cN (len sz:Nat):AV->AV->Option AV
 | .ptr id r off,.int _ n=>if 0<=n/\n<len then some (.ptr id r (off+n.toNat*sz))else none
 | .dn cs,.int _ n=>if 0<=n/\n<len then some (.dn (cs.drop (n.toNat*sz)))else none
 |_,_=>none
def cQ:AV->AV->Option AV
 | .str s,.int _ n=>if 0<=n then(s[n.toNat]?).map fun b=>.int .u8 b.toNat else none
 |_,_=>none
def cP (agg:Bool) (len n:Nat):AV->AV->Option AV
 | .agg cs,.int _ i=>if 0<=i/\i<len then part agg n (cs.drop (i.toNat*n))else none
 |_,_=>none
def ec:AV->Option Nat
 | .cu=>some 0
 | .sl rows=>some rows.length
 | .own _ _ n=>some n
 |_=>none
def eh:AV->Option AV
 | .bool b=>some (.bool !b)
 |_=>none
def ee:AV->Option AV
 | .int k n=>some (.int k (k.wrap (0-n)))
 |_=>none
def cL (k:IntKind):AV->Option AV
 | .int _ n=>some (.int k (k.wrap n))
 |_=>none
def bU:AV->Option AV
 | .str s=>some (.str s)
 |_=>none
def cY:AV->AV->AV->Option AV
 | .bool c,a,b=>some (if c then a else b)
 |_,_,_=>none
def eb:AV->Option AV
 | .ptr id i o=>some (.ptr id i o)
 | .dn cs=>some (.dn cs)
 |_=>none
def bK (agg:Bool) (off n:Nat):AV->Option AV
 | .agg cs=>if off+n<=cs.length then part agg n (cs.drop off)else none
 |_=>none
def aO (i:Nat):AV->Option AV
 | .iD vs=>vs[i]?
 |_=>none
def cU:AV->Option AV
 | .str s=>some (.int .i64 s.size)
 |_=>none
def rowOf (sz:Nat) (v:AV):Option (List AV):=if v.cells.length=sz/\v.cells.all AV.cell then some v.cells else none
def cJ (v:AV):Option (List AV):=if v.cells.all AV.cell then some v.cells else none
def rowsOf (sz:Nat):List AV->Option (List (List AV))
 |[]=>some []
 |v::r=>(rowOf sz v).bind fun c=>(rowsOf sz r).map fun cs=>c::cs
def cG:List AV->List (Nat×Nat×AV)->Option (List AV)
 |cs,[]=>some cs
 |cs,(off,n,v)::r=>if v.cells.length=n/\off+n<=cs.length/\v.cells.all AV.cell then cG (cs.take off++v.cells++cs.drop (off+n)) r else none
def dD:Nat:=16777216
def gU (zero:List K):AV->AV->Option (Nat×Row)
 | .int _ l,.int _ c=>if 0<=l/\l<=c/\c<=dD then some (l.toNat,⟨true,zero.length,List.replicate l.toNat (zero.map K.av)⟩)else none
 |_,_=>none
def sg:Nat:=1000000000
def MK.ks (m:MK):Nat:=m.ts.length
def MK.ma (m:MK):Nat:=sg+m.ks
def AV.isAgg:AV->Bool
 | .agg _=>true
 |_=>false
def gh (m:MK) (key:List AV):List (List AV)->Nat->Option (Option Nat)
 |[],_=>some none
 |r::l,i=>match eY m.ts key (r.take m.ks)with
  |some true=>some (some i)
  |some false=>gh m key l (i+1)
  |none=>none
def dR (g:Rows) (m:MK):AV->Option (Id×Row)
 | .map id m'=>if m'=m then(g id).map fun r=>(id,r)else none
 |_=>none
def fS (m:MK) (k:AV) (rows:List (List AV)):Option (Option Nat):=if k.isAgg=m.ka/\k.cells.length=m.ks/\k.cells.all AV.cell then gh m k.cells rows 0 else none
def dY (m:MK) (z:K) (rows:List (List AV)):Option Nat->Option AV
 |some i=>(rows[i]?).bind fun cs=>cs[m.ks]?
 |none=>some z.av
def bD (q:MQ) (vs:List AV) (g:Rows) (id:Id):Option (AV×Option Row):=
 match q,vs with
 | .new m,[]=>some (.map id m,some ⟨true,m.ma,[]⟩)
 | .look m ok z,[x,k]=>(dR g m x).bind fun p=>(fS m k p.2.rows).bind fun fi=>(dY m z p.2.rows fi).map fun v=>(if ok then .iD [v,.bool fi.isSome]else v,none)
 | .len m,[x]=>(dR g m x).map fun p=>(.int .i64 p.2.rows.length,none)
 |_,_=>none
def qH:Nat:=2000000000
def cV:AV->Option Nat
 | .int _ n=>if 0<=n/\n<=1048576 then some n.toNat else none
 |_=>none
def cR (g:Rows):AV->Option AV
 | .rO id=>(g id).map fun r=>.int .i64 r.rows.length
 |_=>none
def ej (g:Rows):AV->AV->Option Rows
 | .rO id,v=>(g id).bind fun r=>if r.w/\qH+r.rows.length<r.sz/\v.cell then some (bR g id {r with rows:=r.rows++[[v]]})else none
 |_,_=>none
def ei (g:Rows):AV->Option (AV×Rows)
 | .rO id=>(g id).bind fun r=>match r.rows with
  |[v]::rest=>if r.w then some (v,bR g id {r with rows:=rest})else none
  |_=>none
 |_=>none
def dI (rows:List (List AV)) (e:List AV):Option Nat->List (List AV)
 |some i=>rows.set i e
 |none=>rows++[e]
def dP (rows:List (List AV)):Option Nat->List (List AV)
 |some i=>rows.eraseIdx i
 |none=>rows
def bF (q:MW) (vs:List AV) (g:Rows):Option Rows:=
 match q,vs with
 | .set m,[x,k,v]=>(dR g m x).bind fun p=>(fS m k p.2.rows).bind fun fi=>if p.2.w/\v.cell/\v.isAgg=false then some (bR g p.1 {p.2 with rows:=dI p.2.rows (k.cells++[v]) fi})else none
 | .del m,[x,k]=>(dR g m x).bind fun p=>(fS m k p.2.rows).bind fun fi=>if p.2.w then some (bR g p.1 {p.2 with rows:=dP p.2.rows fi})else none
 |_,_=>none
def eP (o:gz) (ρ:O->AV) (g:Rows) (id:Id):Option (AV×Option Row):=
 match o with
 | .dq x=>some (ρ x,none)
 | .pick c a b=>(cY (ρ c) (ρ a) (ρ b)).map (·,none)
 | .new zero=>some (.ptr id 0 0,some ⟨true,zero.length,[zero.map K.av]⟩)
 | .box x=>(cJ (ρ x)).map fun cs=>(.ptr id 0 0,some ⟨true,cs.length,[cs]⟩)
 | .build zero parts=>(cG (zero.map K.av) (parts.map fun(o,n,x)=>(o,n,ρ x))).map fun cs=>(.agg cs,none)
 | .nh sz len parts=>(rowsOf sz (parts.map ρ)).map fun rs=>(.own id 0 len,some ⟨true,sz,rs⟩)
 | .load agg n a=>(ld g agg n (ρ a)).map (·,none)
 | .Bt x=>(eb (ρ x)).map (·,none)
 | .bin op _ x y=>(ea op (ρ x) (ρ y)).map (·,none)
 | .sh left x y=>(gV left (ρ x) (ρ y)).map (·,none)
 | .Lx op x y=>(cZ op (ρ x) (ρ y)).map (·,none)
 | .Ot neg t x y=>(fX t (ρ x) (ρ y)).map fun b=>(.bool (dr neg b),none)
 | .S3 neg ts x y=>match ρ x,ρ y with
  | .agg xs,.agg ys=>(eY ts xs ys).map fun b=>(.bool (dr neg b),none)
  |_,_=>none
 | .Re neg Ml x=>(ef Ml (ρ x)).map fun b=>(.bool (dr neg b),none)
 | .S4 neg x=>(KQ (ρ x)).map fun b=>(.bool (dr neg b),none)
 | .not x=>(eh (ρ x)).map (·,none)
 | .neg x=>(ee (ρ x)).map (·,none)
 | .conv k x=>(cL k (ρ x)).map (·,none)
 | .Fs x=>(bU (ρ x)).map (·,none)
 | .slice sz x lo hi=>(bP g sz (ρ x) (lo.map ρ) (hi.map ρ)).map (·,none)
 | .AA x lo hi=>(aX (ρ x) (lo.map ρ) (hi.map ρ)).map (·,none)
 | .gm off x=>(E8 off (ρ x)).map (·,none)
 | .field agg off n x=>(bK agg off n (ρ x)).map (·,none)
 | .dL sz x i=>(bL g sz (ρ x) (ρ i)).map (·,none)
 | .Me len sz x i=>(cN len sz (ρ x) (ρ i)).map (·,none)
 | .Mh x i=>(cQ (ρ x) (ρ i)).map (·,none)
 | .eO agg len n x i=>(cP agg len n (ρ x) (ρ i)).map (·,none)
 | .extract i x=>(aO i (ρ x)).map (·,none)
 | .len x=>(ec (ρ x)).map fun(n:Nat)=>(AV.int .i64 (n:Int),none)
 | .Mr x=>(cU (ρ x)).map (·,none)
 | .My f db=>some (.fn f (db.map ρ),none)
 | .Mz f first=>some (.ud f (first.map ρ),none)
 | .j4 zero l c=>(gU zero (ρ l) (ρ c)).map fun(n,r)=>(.own id 0 n,some r)
 | .mq q xs=>bD q (xs.map ρ) g id
 | .J3 x=>(cV (ρ x)).map fun n=>(.rO id,some ⟨true,qH+n,[]⟩)
 | .JQ x=>(cR g (ρ x)).map (·,none)
 |_=>none
def bp (g:Rows):AV->Option (List (List AV))
 | .cu=>some []
 | .sl rows=>some rows
 | .own id off len=>(g id).bind fun r=>if off+len<=r.rows.length then some ((r.rows.drop off).take len)else none
 |_=>none
def cI (cs:List AV) (off:Nat) (xs:List AV):List AV:=cs.take off++xs++cs.drop (off+xs.length)
def bQ (g:Rows) (n:Nat) (v:AV):AV->Option Rows
 | .ptr id i off=>(g id).bind fun r=>(r.rows[i]?).bind fun cs=>
  if r.w/\v.cells.length=n/\v.cells.all AV.cell/\off+n<=cs.length then some (bR g id {r with rows:=r.rows.set i (cI cs off v.cells)})else none
 |_=>none
def aW (g:Rows) (id:Id) (sz:Nat) (x:AV) (ys:List (List AV)):Option (AV×Rows):=
 match x with
 | .cu=>match ys with
  |[]=>some (.cu,g)
  |y::r=>if (y::r).length<=dD/\(y::r).all (fun c=>c.length==sz&&c.all AV.cell)then some (.own id 0 (y::r).length,bR g id ⟨true,sz,y::r⟩)else none
 | .own i 0 len=>(g i).bind fun r=>
  if r.w/\r.sz=sz/\len=r.rows.length/\len+ys.length<=dD/\ys.all (fun c=>c.length==sz&&c.all AV.cell)then some (.own id 0 (len+ys.length),bR (cq g i) id ⟨true,sz,r.rows++ys⟩)else none
 |_=>none
def Gc (g:Rows) (sz:Nat) (x:AV) (ys:List (List AV)):Option (AV×Rows):=
 match x with
 | .own i off len=>(g i).bind fun r=>
  if r.w/\r.sz=sz/\off+len<=r.rows.length/\ys.all (fun c=>c.length==sz&&c.all AV.cell)then
   some (.int .i64 (min ys.length len:Nat),bR g i {r with rows:=r.rows.take off++ys.take (min ys.length len)++r.rows.drop (off+min ys.length len)})else none
 |_=>none
def bJ (g:Rows) (zero:List K) (x:AV):Option Rows:=
 match x with
 | .cu=>some g
 | .own i off len=>(g i).bind fun r=>
  if r.w/\r.sz=zero.length/\off+len<=r.rows.length then
   some (bR g i {r with rows:=r.rows.take off++List.replicate len (zero.map K.av)++r.rows.drop (off+len)})else none
 |_=>none
def fZ (o:gz) (ρ:O->AV) (g:Rows) (id:Id):Option (AV×Rows):=
 match o with
 | .store n a x=>(bQ g n (ρ x) (ρ a)).map fun g'=>(.undef,g')
 | .append sz x y=>(bp g (ρ y)).bind fun ys=>aW g id sz (ρ x) ys
 | .copy sz x y=>(bp g (ρ y)).bind fun ys=>Gc g sz (ρ x) ys
 | .clear zero x=>(bJ g zero (ρ x)).map fun g'=>(.undef,g')
 | .mw q xs=>(bF q (xs.map ρ) g).map fun g'=>(.undef,g')
 |_=>none
def vI:AV->List AV->Option (Nat×List AV)
 | .fn f db,l=>some (f,l++db)
 | .ud f first,l=>some (f,first++l)
 |_,_=>none
abbrev fK:=Nat->List AV->ax->(AV->ax->Prop)->Prop
mutual
def fz (g:Rows):Nat->AV->Option AV
 |0,_=>none
 |n+1,a=>match a with
  | .own id off len=>match g id with
   |some r=>if r.w then(if off+len<=r.rows.length then(dU g n ((r.rows.drop off).take len)).map AV.sl else none)else none
   |none=>none
  | .ptr id i off=>match g id with
   |some r=>if r.w then(match r.rows[i]? with
    |some cs=>(dd g n (cs.drop off)).map AV.dn
    |none=>none)else none
   |none=>none
  | .agg cs=>(dd g n cs).map AV.agg
  | .iD vs=>(dd g n vs).map AV.iD
  | .fn f db=>if db.all AV.cell then(dd g n db).map (AV.fn f)else none
  | .map _ _| .ud _ _| .rO _=>none
  |v=>some v
 termination_by n _=>(n,0)
def dd (g:Rows):Nat->List AV->Option (List AV)
 |n,[]=>some []
 |n,a::r=>match fz g n a with
  |some b=>(dd g n r).map (b::·)
  |none=>none
 termination_by n l=>(n,l.length+1)
def dU (g:Rows):Nat->List (List AV)->Option (List (List AV))
 |n,[]=>some []
 |n,c::r=>match dd g n c with
  |some b=>(dU g n r).map (b::·)
  |none=>none
 termination_by n l=>(n,(l.map (fun c=>c.length+2)).sum+1)
 decreasing_by all_goals simp_wf;try omega
end
mutual
def gx (g:Rows):Nat->AV->Option AV
 |0,_=>none
 |n+1,a=>match a with
  | .own id off len=>match g id with
   |some r=>if r.w then(if off+len<=r.rows.length then(ig g n ((r.rows.drop off).take len)).map AV.sl else none)else none
   |none=>none
  | .ptr id i off=>match g id with
   |some r=>if r.w then(match r.rows[i]? with
    |some cs=>(ez g n (cs.drop off)).map AV.dn
    |none=>none)else none
   |none=>none
  | .agg cs=>(ez g n cs).map AV.agg
  | .iD vs=>(ez g n vs).map AV.iD
  | .int k m=>some (.int k m)
  | .bool b=>some (.bool b)
  | .str s=>some (.str s)
  | .cu=>some .cu
  | .gO=>some .gO
  | .jb=>some .jb
  | .ji=>some .ji
  |_=>none
 termination_by n _=>(n,0)
def ez (g:Rows):Nat->List AV->Option (List AV)
 |n,[]=>some []
 |n,a::r=>match gx g n a with
  |some b=>(ez g n r).map (b::·)
  |none=>none
 termination_by n l=>(n,l.length+1)
def ig (g:Rows):Nat->List (List AV)->Option (List (List AV))
 |n,[]=>some []
 |n,c::r=>match ez g n c with
  |some b=>(ig g n r).map (b::·)
  |none=>none
 termination_by n l=>(n,(l.map (fun c=>c.length+2)).sum+1)
 decreasing_by all_goals simp_wf;try omega
end
def dJ (g:Rows):Rows:=fun id=>(g id).map fun r=>{r with w:=true}
def PC (X:fK) (f:Nat) (args:List AV) (σ:ax) (K:AV->Prop):Prop:=
 X f args ⟨ro σ.get,σ.next⟩ fun r σ'=>∃r',fz σ'.get 6 r=some r'/\K r'
def PCv (X:fK) (f:Nat) (args:List AV) (σ:ax) (K:AV->Prop):Prop:=
 ∃eF,dd (dJ σ.get) 6 args=some eF/\X f eF ⟨fun _=>none,σ.next⟩ fun r σ'=>∃r',gx σ'.get 6 r=some r'/\K r'
def gq (X:fK) (f:Nat) (args:List AV) (σ:ax) (K:AV->Prop):Prop:=PC X f args σ K∨PCv X f args σ K
def aI (g:Option (Nat×Bool)) (env:Env):Bool:=
 match g with
 |none=>true
 |some (t,b)=>match env t with
  | .bool c=>c==b
  |_=>false
def AV.plain:AV->Bool
 | .int .. | .bool _| .str _| .cu| .gO| .jb| .ji=>true
 |_=>false
def CM (X:fK) (f:Nat) (args:List AV) (σ:ax) (sz:Nat) (rows:List (List AV)):Prop:=
 (∀c∈rows,∀a∈c,a.plain=true)/\∃eF,dd (dJ σ.get) 6 args=some eF/\X f eF ⟨fun _=>none,σ.next⟩ fun r σ'=>∃id,r=.own id 0 rows.length/\σ'.get id=some ⟨true,sz,rows⟩
def cH (X:fK) (draw:Bool) (hid:List Nat) (site:Nat) (f:Nat) (args:List AV) (σ:ax) (next:AV->ax->Prop):Prop:=
 (∃r,gq X f args ⟨fY hid σ.next σ.get,σ.next+1⟩ (fun r'=>r'=r)/\next r σ)∨
 (draw=false/\X f args ⟨σ.get,σ.next+1⟩ next)∨
 (hid.contains site=true/\∃sz rows,CM X f args ⟨fY hid σ.next σ.get,σ.next+1⟩ sz rows/\next (.own ⟨site,σ.next⟩ 0 rows.length) ⟨bR σ.get ⟨site,σ.next⟩ ⟨true,sz,rows⟩,σ.next⟩)
def fJ (X:fK) (draw:Bool) (o:bt) (env:Env) (σ:ax) (next:AV->ax->Prop):Prop:=
 match o.op with
 | .call f args=>cH X draw o.hid o.site f (args.map (dc env)) σ next
 | .tN x args=>match dc env x with
  | .fn f db=>cH X draw o.hid o.site f (args.map (dc env)++db) σ next
  | .ud f first=>cH X draw o.hid o.site f (first++args.map (dc env)) σ next
  |_=>False
 | .store .. | .append .. | .copy .. | .clear .. | .mw .. =>match fZ o.op (dc env) σ.get ⟨o.site,σ.next⟩with
  |some (v,g)=>next v ⟨g,σ.next⟩
  |none=>False
 |_=>match eP o.op (dc env) (fY o.hid σ.next σ.get) ⟨o.site,σ.next⟩with
  |some (v,some r)=>next v ⟨bR σ.get ⟨o.site,σ.next⟩ r,σ.next⟩
  |some (v,none)=>next v σ
  |none=>False
def wpOps (X:fK) (draw:Bool):List bt->(Env->ax->Prop)->Env->ax->Prop
 |[],K,env,σ=>K env ⟨σ.get,σ.next+1⟩
 |o::r,K,env,σ=>
  if aI o.guard env then fJ X draw o env σ fun v σ'=>wpOps X draw r K (upd env o.dst v) σ'
  else wpOps X draw r K (upd env o.dst .undef) σ
def cF:List bt->(Env->ax->Prop)->Env->ax->Prop
 |[],K,env,σ=>K env ⟨σ.get,σ.next+1⟩
 |o::r,K,env,σ=>o.guard=none/\match o.op with
  | .snd x y=>match ej σ.get (dc env x) (dc env y)with
   |some g=>cF r K (upd env o.dst .undef) ⟨g,σ.next⟩
   |none=>False
  | .PJ x=>match ei σ.get (dc env x)with
   |some (v,g)=>cF r K (upd env o.dst v) ⟨g,σ.next⟩
   |none=>False
  |op=>match eP op (dc env) σ.get ⟨o.site,σ.next⟩with
   |some (v,none)=>cF r K (upd env o.dst v) σ
   |_=>False
def dx (next:Env->ax->Prop) (Q:Ex->Env->ax->Prop):Ex->Env->ax->Prop
 | .normal=>next
 |e=>Q e
def bf (id:Nat) (Q:Ex->Env->ax->Prop):Ex->Env->ax->Prop
 | .exit k6=>if k6=id then Q .normal else Q (.exit k6)
 |e=>Q e
def FY (W:(Ex->Env->ax->Prop)->Env->ax->Prop) (Q:Ex->Env->ax->Prop):Nat->Env->ax->Prop
 |0=>fun _ _=>False
 |n+1=>W (dx (FY W Q n) Q)
def Ms (t s:Nat) (y:O) (env:Env) (n:Nat):Prop:=(∃len,env t=.own ⟨s,n⟩ 0 len)/\∀id o l,dc env y=.own id o l->id.bj≠n
def eu (X:fK):VC->(Ex->Env->ax->Prop)->Env->ax->Prop
 | .skip,Q=>Q .normal
 | .eT draw ops,Q=>wpOps X draw ops (Q .normal)
 | .seq a b,Q=>eu X a (dx (eu X b Q) Q)
 | .cond c x y,Q=>fun env σ=>match dc env c with
  | .bool b=>if b then eu X x Q env σ else eu X y Q env σ
  |_=>False
 | .block id c,Q=>eu X c (bf id Q)
 | .loop c,Q=>fun env σ=>∃n,FY (eu X c) Q n env σ
 | .exit id,Q=>Q (.exit id)
 | .ret,Q=>Q .ret
 | .one o c,Q=>fun env σ=>if aI o.guard env then fJ X false o env σ fun v σ'=>eu X c Q (upd env o.dst v) σ' else eu X c Q (upd env o.dst .undef) σ
 | .both a b,Q=>fun env σ=>eu X a Q env σ/\eu X b Q env σ
 | .loc t s y c,Q=>fun env σ=>Ms t s y env σ.next/\eu X c Q env σ
 | .Ol ops,Q=>cF ops (Q .normal)
def iv (env:Env) (g:Rows):oH->Option AV
 | .tmp t=>some (env t)
 | .cell agg n t=>ld g agg n (env t)
def fy (env:Env) (g:Rows):List oH->Option (List AV)
 |[]=>some []
 |r::l=>(iv env g r).bind fun v=>(fy env g l).map (v::·)
def fm:List AV->AV
 |[v]=>v
 |l=>.iD l
def cz (args:List AV):Env:=fun t=>args.getD t .undef
def lq (res:List oH) (K:AV->ax->Prop):Ex->Env->ax->Prop
 | .exit _,_,_=>False
 |_,env,σ=>∃vs,fy env σ.get res=some vs/\K (fm vs) σ
inductive jH (P:Program) (w:World) (D:Nat->Prop):AV->Value->Prop
 |int (k n):jH P w D (.int k n) (.int k n)
 |bool (b):jH P w D (.bool b) (.bool b)
 |str (s):jH P w D (.str s) (.string s)
 |cu:jH P w D .cu (.slice none 0 0)
 |gO:jH P w D .gO (.pointer none)
 |jb:jH P w D .jb .nilFunc
 |A6 (a c):c<=maxLen->jH P w D (.sl []) (.slice a 0 c)
 |sl (rows b o n c sz) (vs:Nat->Nat->Value):rows.length=n->n<=c->c<=maxLen->D b->(∀cs∈rows,cs.length=sz)->(∀cs∈rows,∀a∈cs,a.cell=true)->
   (∀i j,i<n->j<sz->w.cell? ⟨b,o+(i*sz+j),none⟩=some (vs i j))->
   (∀i j cs a,rows[i]? =some cs->cs[j]? =some a->jH P w D a (vs i j))->jH P w D (.sl rows) (.slice (some ⟨b,o,none⟩) n c)
 |dn (cs b o) (vs:Nat->Value):D b->(∀a∈cs,a.cell=true)->(∀j,j<cs.length->w.cell? ⟨b,o+j,none⟩=some (vs j))->
   (∀j a,cs[j]? =some a->jH P w D a (vs j))->jH P w D (.dn cs) (.pointer (some ⟨b,o,none⟩))
 |agg (cs) (vs:Array Value) (f:Nat->Value):vs.size=cs.length->(∀a∈cs,a.cell=true)->(∀j,j<cs.length->vs[j]? =some (f j))->(∀j a,cs[j]? =some a->jH P w D a (f j))->jH P w D (.agg cs) (.agg vs)
 |fn (f db) (vs:Array Value) (g:Nat->Value):fQ P f=true->vs.size=db.length->(∀j,j<db.length->vs[j]? =some (g j))->(∀j a,db[j]? =some a->jH P w D a (g j))->jH P w D (.fn f db) (.func (.func f) #[] vs)
 |ji:jH P w D .ji (.map none)
inductive BK where
 |map (m:MK)
 |chan (cap:Nat)
structure sU where
 b:Nat
 sz:Nat
 C:Nat
 k:Option BK
abbrev Names:=Id->Option sU
inductive dh (P:Program) (w:World) (D:Nat->Prop) (ι:Names):AV->Value->Prop
 |eS (a v):jH P w D a v->dh P w D ι a v
 |own (id off len o cap B):ι id=some B->B.k=none->len<=cap->(cap=0∨o=off*B.sz)->(off+cap)*B.sz<=B.C->cap<=maxLen->dh P w D ι (.own id off len) (.slice (some ⟨B.b,o,none⟩) len cap)
 |ptr (id i off B):ι id=some B->B.k=none->dh P w D ι (.ptr id i off) (.pointer (some ⟨B.b,i*B.sz+off,none⟩))
 |agg (cs) (vs:Array Value) (f:Nat->Value):vs.size=cs.length->(∀a∈cs,a.cell=true)->(∀j,j<cs.length->vs[j]? =some (f j))->(∀j a,cs[j]? =some a->dh P w D ι a (f j))->dh P w D ι (.agg cs) (.agg vs)
 |iD (cs) (vs:Array Value) (f:Nat->Value):vs.size=cs.length->(∀j,j<cs.length->vs[j]? =some (f j))->(∀j a,cs[j]? =some a->dh P w D ι a (f j))->dh P w D ι (.iD cs) (.tuple vs)
 |fn (f db) (vs:Array Value) (g:Nat->Value):fQ P f=true->vs.size=db.length->(∀j,j<db.length->vs[j]? =some (g j))->(∀j a,db[j]? =some a->dh P w D ι a (g j))->dh P w D ι (.fn f db) (.func (.func f) #[] vs)
 |rO (id c B):ι id=some B->B.k=some (.chan c)->dh P w D ι (.rO id) (.chan (some B.b))
 |map (id m B):ι id=some B->B.k=some (.map m)->dh P w D ι (.map id m) (.map (some B.b))
 |ud (f db) (vs:Array Value) (g:Nat->Value):fQ P f=true->vs.size=db.length->(∀j,j<db.length->vs[j]? =some (g j))->(∀j a,db[j]? =some a->dh P w D ι a (g j))->dh P w D ι (.ud f db) (.func (.func f) vs #[])
variable {P:Program} {w w':World} {D D':Nat->Prop} {ι ι':Names}
theorem jH.frame (hD:∀b,D b->w'.heap[b]? =w.heap[b]?) (hs:∀b,D b->D' b) {a:AV} {v:Value} (h:jH P w D a v):jH P w' D' a v:=by
 induction h with
 |int k n=>exact .int k n
 |bool b=>exact .bool b
 |str s=>exact .str s
 |cu=>exact .cu
 |gO=>exact .gO
 |jb=>exact .jb
 |ji=>exact .ji
 |A6 a c h=>exact .A6 a c h
 |sl rows b o n c sz vs h1 h2 h3 h4 h5 h5' h6 _ ih=>exact .sl rows b o n c sz vs h1 h2 h3 (hs b h4) h5 h5' (fun i j hi hj=>(World.cell?_of_block (hD b h4)).trans (h6 i j hi hj)) ih
 |dn cs b o vs h1 OA h2 _ ih=>exact .dn cs b o vs (hs b h1) OA (fun j hj=>(World.cell?_of_block (hD b h1)).trans (h2 j hj)) ih
 |agg cs vs f h1 h2 h3 _ ih=>exact .agg cs vs f h1 h2 h3 ih
 |fn f db vs g h1 h2 h3 _ ih=>exact .fn f db vs g h1 h2 h3 ih
theorem dh.frame (hD:∀b,D b->w'.heap[b]? =w.heap[b]?) (hs:∀b,D b->D' b) (hι:∀id B,ι id=some B->ι' id=some B) {a:AV} {v:Value} (h:dh P w D ι a v):dh P w' D' ι' a v:=by
 induction h with
 |eS a v h=>exact .eS a v (h.frame hD hs)
 |map id m B h1 h2=>exact .map id m B (hι _ _ h1) h2
 |rO id c B h1 h2=>exact .rO id c B (hι _ _ h1) h2
 |own id off len o cap B h1 h2 h3 h4 h5 h6=>exact .own id off len o cap B (hι _ _ h1) h2 h3 h4 h5 h6
 |ptr id i off B h1 h2=>exact .ptr id i off B (hι _ _ h1) h2
 |agg cs vs f h1 h2 h3 _ ih=>exact .agg cs vs f h1 h2 h3 ih
 |iD cs vs f h1 h2 _ ih=>exact .iD cs vs f h1 h2 ih
 |fn f db vs g h1 h2 h3 _ ih=>exact .fn f db vs g h1 h2 h3 ih
 |ud f db vs g h1 h2 h3 _ ih=>exact .ud f db vs g h1 h2 h3 ih
theorem dh.undef:dh P w D ι .undef Go.undef:=.iD [] #[] (fun _=>Go.undef) rfl (fun j hj=>by simp at hj) (fun j a h=>by simp at h)
theorem wZ (c:K):dh P w D ι c.av c.val:=by
 cases c with
 |int k n=>exact .eS _ _ (.int k n)
 |bool b=>exact .eS _ _ (.bool b)
 |str l=>exact .eS _ _ (.str _)
 |cu=>exact .eS _ _ .cu
 |gO=>exact .eS _ _ .gO
 |jb=>exact .eS _ _ .jb
 |ji=>exact .eS _ _ .ji
theorem K.mZ (c:K):c.av.cell=true:=by cases c<;>rfl
theorem zU {v:Value} {c:K} (h:Hc v=some c):v=c.val:=by
 unfold Hc at h
 split at h<;>simp at h<;>subst h<;>rfl
theorem dh.Bs {a:AV} {v:Value} (h:dh P w D ι a v) (hc:a.cell=true):v.cells= #[v]/\(∀vs,v≠.agg vs)/\(∀vs,v≠.tuple vs):=by
 cases h with
 |eS a v h=>cases h<;>simp_all [AV.cell,Value.cells]
 |own=>simp[Value.cells]
 |map=>simp[Value.cells]
 |rO=>simp[Value.cells]
 |ptr=>simp[Value.cells]
 |agg=>simp[AV.cell]at hc
 |iD=>simp[AV.cell]at hc
 |fn=>simp[Value.cells]
 |ud=>simp[Value.cells]
theorem dh.cells {a:AV} {v:Value} (h:dh P w D ι a v) (ha:a.cells.all AV.cell=true):v.cells.size=a.cells.length/\∃f:Nat->Value,(∀j,j<a.cells.length->v.cells[j]? =some (f j))/\∀j x,a.cells[j]? =some x->dh P w D ι x (f j):=by
 have one:∀(a:AV) (v:Value),a.cell=true->a.cells=[a]->dh P w D ι a v->v.cells.size=a.cells.length/\∃f:Nat->Value,(∀j,j<a.cells.length->v.cells[j]? =some (f j))/\∀j x,a.cells[j]? =some x->dh P w D ι x (f j):=by
  intro a v hc dw h
  obtain⟨h1,_,_⟩:=h.Bs hc
  rw[h1,dw]
  refine⟨rfl,fun _=>v,fun j hj=>?_,fun j x hx=>?_⟩
  ·have:j=0:=by simp at hj;omega
   subst this;rfl
  ·cases j with
   |zero=>simp at hx;subst hx;exact h
   |succ j=>simp at hx
 cases h with
 |eS a v h=>
  cases h with
  |agg cs vs f h1 h2 h3 h4=>exact⟨h1,f,h3,fun j x hx=>.eS _ _ (h4 j x hx)⟩
  |_=>exact one _ _ rfl rfl (.eS _ _ (by constructor<;>assumption))
 |own id off len o cap B h1 h2 h3 h4 h5 h6=>exact one _ _ rfl rfl (.own id off len o cap B h1 h2 h3 h4 h5 h6)
 |ptr id i off B h1 h2=>exact one _ _ rfl rfl (.ptr id i off B h1 h2)
 |map id m B h1 h2=>exact one _ _ rfl rfl (.map id m B h1 h2)
 |rO id c B h1 h2=>exact one _ _ rfl rfl (.rO id c B h1 h2)
 |agg cs vs f h1 h2 h3 h4=>exact⟨h1,f,h3,h4⟩
 |iD cs vs f h1 h2 h3=>simp[AV.cells,AV.cell]at ha
 |fn f db vs g h1 h2 h3 h4=>exact one _ _ rfl rfl (.fn f db vs g h1 h2 h3 h4)
 |ud f db vs g h1 h2 h3 h4=>exact one _ _ rfl rfl (.ud f db vs g h1 h2 h3 h4)
structure kV (P:Program) (w:World) (D:Nat->Prop) (ι:Names) (B:sU) (r:Row):Prop where
 sz:B.sz=r.sz
 ye:∃cells T,w.heap[B.b]? =some (.cells cells T (0,0))/\cells.size=B.C
 fits:r.rows.length*r.sz<=B.C
 len:∀cs∈r.rows,cs.length=r.sz
 flat:∀cs∈r.rows,∀a∈cs,a.cell=true
 at_:∀i j cs a,r.rows[i]? =some cs->cs[j]? =some a->∃v,w.cell? ⟨B.b,i*r.sz+j,none⟩=some v/\dh P w D ι a v
def Gp (es:Array MapEntry) (clock:Nat):Prop:=(∀x∈es.toList,x.born<clock)/\(es.toList.map (·.born)).Nodup
def Nl (P:Program) (w:World) (D:Nat->Prop) (ι:Names) (B:sU) (m:MK) (r:Row):Prop:=
 ∃(es:Array MapEntry) (clock:Nat),w.heap[B.b]? =some (.map es clock)/\es.size=r.rows.length/\((∀cs∈r.rows,cs.length=m.ks+1)/\Gp es clock)/\
  ∀(i:Nat) (cs:List AV),r.rows[i]? =some cs->∃(e:MapEntry) (kv vv:AV),es[i]? =some e/\part m.ka m.ks cs=some kv/\cs[m.ks]? =some vv/\dh P w D ι kv e.key/\dh P w D ι vv e.val
def Ip (P:Program) (w:World) (D:Nat->Prop) (ι:Names) (B:sU) (c:Nat) (r:Row):Prop:=
 ∃(buf:Array Value) (s q:Nat),w.heap[B.b]? =some (.chan c buf false s q false)/\buf.size=r.rows.length/\
  ∀(i:Nat) (cs:List AV),r.rows[i]? =some cs->∃(a:AV) (u:Value),cs=[a]/\buf[i]? =some u/\dh P w D ι a u
structure ib (P:Program) (w:World) (D:Nat->Prop) (ι:Names) (B:sU) (r:Row):Prop where
 sz:B.sz=r.sz
 flat:∀cs∈r.rows,∀a∈cs,a.cell=true
 row:B.k=none->kV P w D ι B r
 map:∀m,B.k=some (.map m)->r.sz=m.ma/\Nl P w D ι B m r
 chan:∀c,B.k=some (.chan c)->r.sz=qH+c/\Ip P w D ι B c r
theorem kV.obj {B:sU} {r:Row} (R:kV P w D ι B r) (h:B.k=none):ib P w D ι B r:=⟨R.sz,R.flat,fun _=>R,fun m hm=>(by rw[h]at hm;cases hm),fun m hm=>by rw[h]at hm;cases hm⟩
theorem ib.flag {B:sU} {r:Row} (R:ib P w D ι B r) (b:Bool):ib P w D ι B {r with w:=b}:=⟨R.sz,R.flat,fun h=>⟨R.sz,(R.row h).ye,(R.row h).fits,(R.row h).len,R.flat,(R.row h).at_⟩,R.map,R.chan⟩
theorem ib.cells {B:sU} {r:Row} (R:ib P w D ι B r) (h:r.sz<sg):B.k=none:=by
 cases hk:B.k with
 |none=>rfl
 |some m=>
  cases m with
  |map m=>
   have h1:=(R.map m hk).1
   unfold MK.ma at h1
   omega
  |chan c=>
   have h1:=(R.chan c hk).1
   unfold qH at h1
   unfold sg at h
   omega
theorem ib.MB {B:sU} {r:Row} (R:ib P w D ι B r) {c:Array Value} {T:TypeId} {z:Nat×Nat} (h:w.heap[B.b]? =some (.cells c T z)):B.k=none:=by
 cases hk:B.k with
 |none=>rfl
 |some m=>
  cases m with
  |map m=>obtain⟨_,es,c,h3,_⟩:=R.map m hk;rw[h]at h3;cases h3
  |chan c=>obtain⟨_,buf,s,q,h3,_⟩:=R.chan c hk;rw[h]at h3;cases h3
theorem ib.lt {B:sU} {r:Row} (R:ib P w D ι B r):B.b<w.heap.size:=by
 cases h:B.k with
 |none=>
  obtain⟨c,T,h3,_⟩:=(R.row h).ye
  exact(Array.getElem?_eq_some_iff.1 h3).1
 |some m=>
  cases m with
  |map m=>obtain⟨_,es,c,h3,_⟩:=R.map m h;exact(Array.getElem?_eq_some_iff.1 h3).1
  |chan c=>obtain⟨_,buf,s,q,h3,_⟩:=R.chan c h;exact(Array.getElem?_eq_some_iff.1 h3).1
structure gy (P:Program) (hs:Nat) (D:Nat->Prop) (ι:Names) (g:Rows) (w:World):Prop where
 lo:hs<=w.heap.size
 dead:∀b,D b->b<w.heap.size
 row:∀id r,g id=some r->∃B,ι id=some B/\ib P w D ι B r/\(r.w=true->hs<=B.b)/\(r.w=true->¬D B.b)
 inj:∀id k6 r r' B B',g id=some r->g k6=some r'->r.w=true->ι id=some B->ι k6=some B'->B.b=B'.b->id=k6
def Used (ι:Names) (n:Nat) (U:Nat->Prop):Prop:=∀id,ι id≠none->id.bj<n∨(id.bj=n/\U id.site)
structure Step (hs:Nat) (D:Nat->Prop) (ι:Names) (w:World) (D':Nat->Prop) (ι':Names) (w':World):Prop where
 below:Below hs w w'
 uE:∀b,D b->w'.heap[b]? =w.heap[b]?
 dead:∀b,D b->D' b
 names:∀id B,ι id=some B->ι' id=some B
 new:∀b,D' b->D b∨hs<=b
theorem Step.refl (hs:Nat) (D:Nat->Prop) (ι:Names) (w:World):Step hs D ι w D ι w:=⟨Below.refl _ _,fun _ _=>rfl,fun _ h=>h,fun _ _ h=>h,fun _ h=>.inl h⟩
theorem Step.trans {hs:Nat} {D D' D'':Nat->Prop} {ι ι' SY:Names} {w w' Li:World} (h:Step hs D ι w D' ι' w') (k:Step hs D' ι' w' D'' SY Li):Step hs D ι w D'' SY Li:=
 ⟨h.below.trans k.below,fun b hb=>(k.uE b (h.dead b hb)).trans (h.uE b hb),fun b hb=>k.dead b (h.dead b hb),fun id B hB=>k.names id B (h.names id B hB),fun b hb=>by
  rcases k.new b hb with hb|hb
  ·exact h.new b hb
  ·exact .inr hb⟩
theorem Step.rep {hs:Nat} {D D':Nat->Prop} {ι ι':Names} {w w':World} (h:Step hs D ι w D' ι' w') {a:AV} {v:Value} (hr:dh P w D ι a v):dh P w' D' ι' a v:=hr.frame h.uE h.dead h.names
theorem dt {k n} {v:Value} (h:dh P w D ι (.int k n) v):v=.int k n:=by
 cases h with
 |eS _ _ h=>cases h;rfl
theorem fb {b} {v:Value} (h:dh P w D ι (.bool b) v):v=.bool b:=by
 cases h with
 |eS _ _ h=>cases h;rfl
theorem fH {s} {v:Value} (h:dh P w D ι (.str s) v):v=.string s:=by
 cases h with
 |eS _ _ h=>cases h;rfl
theorem iR {v:Value} (h:dh P w D ι .cu v):v=.slice none 0 0:=by
 cases h with
 |eS _ _ h=>cases h;rfl
theorem w5 {v:Value} (h:dh P w D ι .jb v):v=.nilFunc:=by
 cases h with
 |eS _ _ h=>cases h;rfl
theorem iA {cs} {v:Value} (h:dh P w D ι (.agg cs) v):∃(vs:Array Value) (f:Nat->Value),v=.agg vs/\vs.size=cs.length/\(∀a∈cs,a.cell=true)/\(∀j,j<cs.length->vs[j]? =some (f j))/\∀j a,cs[j]? =some a->dh P w D ι a (f j):=by
 cases h with
 |eS _ _ h=>
  cases h with
  |agg cs vs f h1 h2 h3 h4=>exact⟨vs,f,rfl,h1,h2,h3,fun j a h=>.eS _ _ (h4 j a h)⟩
 |agg cs vs f h1 h2 h3 h4=>exact⟨vs,f,rfl,h1,h2,h3,h4⟩
theorem uW {cs} {v:Value} (h:dh P w D ι (.iD cs) v):∃(vs:Array Value) (f:Nat->Value),v=.tuple vs/\vs.size=cs.length/\(∀j,j<cs.length->vs[j]? =some (f j))/\∀j a,cs[j]? =some a->dh P w D ι a (f j):=by
 cases h with
 |eS _ _ h=>cases h
 |iD cs vs f h1 h2 h3=>exact⟨vs,f,rfl,h1,h2,h3⟩
theorem wY {f db} {v:Value} (h:dh P w D ι (.fn f db) v):∃(vs:Array Value) (g:Nat->Value),v=.func (.func f) #[] vs/\fQ P f=true/\vs.size=db.length/\(∀j,j<db.length->vs[j]? =some (g j))/\∀j a,db[j]? =some a->dh P w D ι a (g j):=by
 cases h with
 |eS _ _ h=>
  cases h with
  |fn f db vs g h1 h2 h3 h4=>exact⟨vs,g,rfl,h1,h2,h3,fun j a h=>.eS _ _ (h4 j a h)⟩
 |fn f db vs g h1 h2 h3 h4=>exact⟨vs,g,rfl,h1,h2,h3,h4⟩
theorem Km {v:Value} (h:dh P w D ι .gO v):v=.pointer none:=by
 cases h with
 |eS _ _ h=>cases h;rfl
theorem CG {v:Value} (h:dh P w D ι .ji v):v=.map none:=by
 cases h with
 |eS _ _ h=>cases h;rfl
theorem MT {f db} {v:Value} (h:dh P w D ι (.ud f db) v):∃(vs:Array Value) (g:Nat->Value),v=.func (.func f) vs #[]/\fQ P f=true/\vs.size=db.length/\(∀j,j<db.length->vs[j]? =some (g j))/\∀j a,db[j]? =some a->dh P w D ι a (g j):=by
 cases h with
 |eS _ _ h=>cases h
 |ud f db vs g h1 h2 h3 h4=>exact⟨vs,g,rfl,h1,h2,h3,h4⟩
theorem iT {id off len} {v:Value} (h:dh P w D ι (.own id off len) v):∃o cap B,v=.slice (some ⟨B.b,o,none⟩) len cap/\ι id=some B/\len<=cap/\(cap=0∨o=off*B.sz)/\(off+cap)*B.sz<=B.C/\cap<=maxLen/\B.k=none:=by
 cases h with
 |eS _ _ h=>cases h
 |own id off len o cap B h1 h2 h3 h4 h5 h6=>exact⟨o,cap,B,rfl,h1,h3,h4,h5,h6,h2⟩
theorem iU {id i off} {v:Value} (h:dh P w D ι (.ptr id i off) v):∃B,v=.pointer (some ⟨B.b,i*B.sz+off,none⟩)/\ι id=some B/\B.k=none:=by
 cases h with
 |eS _ _ h=>cases h
 |ptr id i off B h1 h2=>exact⟨B,rfl,h1,h2⟩
theorem MR {id} {v:Value} (h:dh P w D ι (.rO id) v):∃B c,v=.chan (some B.b)/\ι id=some B/\B.k=some (.chan c):=by
 cases h with
 |eS _ _ h=>cases h
 |rO id c B h1 h2=>exact⟨B,c,rfl,h1,h2⟩
theorem F5 {id m} {v:Value} (h:dh P w D ι (.map id m) v):∃B,v=.map (some B.b)/\ι id=some B/\B.k=some (.map m):=by
 cases h with
 |eS _ _ h=>cases h
 |map id m B h1 h2=>exact⟨B,rfl,h1,h2⟩
theorem lp {cs} {v:Value} (h:dh P w D ι (.dn cs) v):∃b o,∃vs:Nat->Value,v=.pointer (some ⟨b,o,none⟩)/\D b/\(∀a∈cs,a.cell=true)/\(∀j,j<cs.length->w.cell? ⟨b,o+j,none⟩=some (vs j))/\∀j a,cs[j]? =some a->jH P w D a (vs j):=by
 cases h with
 |eS _ _ h=>
  cases h with
  |dn cs b o vs h1 h2 h3 h4=>exact⟨b,o,vs,rfl,h1,h2,h3,h4⟩
theorem w6 {rows} {v:Value} (h:dh P w D ι (.sl rows) v):∃A c,v=.slice A rows.length c/\rows.length<=c/\c<=maxLen/\
  (rows=[]∨∃b o sz,∃vs:Nat->Nat->Value,A=some ⟨b,o,none⟩/\D b/\(∀cs∈rows,cs.length=sz)/\(∀cs∈rows,∀a∈cs,a.cell=true)/\
   (∀i j,i<rows.length->j<sz->w.cell? ⟨b,o+(i*sz+j),none⟩=some (vs i j))/\∀i j cs a,rows[i]? =some cs->cs[j]? =some a->jH P w D a (vs i j)):=by
 cases h with
 |eS _ _ h=>
  cases h with
  |A6 a c h=>exact⟨a,c,rfl,Nat.zero_le _,h,.inl rfl⟩
  |sl rows b o n c sz vs h1 h2 h3 h4 h5 h5' h6 h7=>subst h1;exact⟨_,c,rfl,h2,h3,.inr ⟨b,o,sz,vs,rfl,h4,h5,h5',h6,h7⟩⟩
inductive eH:AV->Prop
 |int (k n):eH (.int k n)
 |bool (b):eH (.bool b)
 |str (s):eH (.str s)
 |cu:eH .cu
 |gO:eH .gO
 |jb:eH .jb
 |sl (rows):rows.length<=maxLen->(∀cs∈rows,∀a∈cs,eH a)->eH (.sl rows)
 |own (id off len):eH (.own id off len)
 |ptr (id i off):eH (.ptr id i off)
 |dn (cs):(∀a∈cs,eH a)->eH (.dn cs)
 |agg (cs):(∀a∈cs,eH a)->eH (.agg cs)
 |iD (cs):(∀a∈cs,eH a)->eH (.iD cs)
 |fn (f db):(∀a∈db,eH a)->eH (.fn f db)
 |map (id m):eH (.map id m)
 |rO (id):eH (.rO id)
 |ji:eH .ji
 |ud (f db):(∀a∈db,eH a)->eH (.ud f db)
theorem eH.len {rows:List (List AV)} (h:eH (.sl rows)):rows.length<=9223372036854775807:=by
 cases h with
 |sl _ h _=>unfold maxLen at h;omega
theorem eH.cell {rows:List (List AV)} (h:eH (.sl rows)) {cs:List AV} (hc:cs∈rows) {a:AV} (ha:a∈cs):eH a:=by
 cases h with
 |sl _ _ h=>exact h cs hc a ha
theorem eH.N8 {cs:List AV} (h:eH (.agg cs)) {a:AV} (ha:a∈cs):eH a:=by
 cases h with
 |agg _ h=>exact h a ha
theorem eH.Cf {cs:List AV} (h:eH (.dn cs)) {a:AV} (ha:a∈cs):eH a:=by
 cases h with
 |dn _ h=>exact h a ha
theorem pa {l:List AV} {p:AV->Prop} (h:∀(j:Nat) (a:AV),l[j]? =some a->p a):∀a∈l,p a:=fun a ha=>by
 obtain⟨j,hj,rfl⟩:=List.getElem_of_mem ha
 exact h j _ (List.getElem?_eq_getElem hj)
theorem jH.JP {a:AV} {v:Value} (h:jH P w D a v):eH a:=by
 induction h with
 |int k n=>exact .int k n
 |bool b=>exact .bool b
 |str s=>exact .str s
 |cu=>exact .cu
 |gO=>exact .gO
 |jb=>exact .jb
 |ji=>exact .ji
 |A6 a c h=>exact .sl [] (Nat.zero_le _) (fun cs h=>by cases h)
 |sl rows b o n c sz vs h1 h2 h3 h4 h5 h5' h6 _ ih=>
  exact .sl rows (by omega) fun cs dw a ha=>by
   obtain⟨i,hi,rfl⟩:=List.getElem_of_mem dw
   obtain⟨j,hj,rfl⟩:=List.getElem_of_mem ha
   exact ih i j _ _ (List.getElem?_eq_getElem hi) (List.getElem?_eq_getElem hj)
 |dn cs b o vs h1 OA h2 _ ih=>exact .dn cs (pa ih)
 |agg cs vs f h1 h2 h3 _ ih=>exact .agg cs (pa ih)
 |fn f db vs g h1 h2 h3 _ ih=>exact .fn f db (pa ih)
theorem dh.JP {a:AV} {v:Value} (h:dh P w D ι a v):eH a:=by
 induction h with
 |eS a v h=>exact h.JP
 |own id off len o cap B=>exact .own _ _ _
 |ptr id i off B=>exact .ptr _ _ _
 |map id m B=>exact .map _ _
 |rO id c B=>exact .rO _
 |agg cs vs f h1 h2 h3 _ ih=>exact .agg cs (pa ih)
 |iD cs vs f h1 h2 _ ih=>exact .iD cs (pa ih)
 |fn f db vs g h1 h2 h3 _ ih=>exact .fn f db (pa ih)
 |ud f db vs g h1 h2 h3 _ ih=>exact .ud f db (pa ih)
end Go.Proofs.YtgoljkjaameagaaGreat.V

namespace Go.Proofs.YtgoljkjaameagaaGreat.V
open Go.RowKit
variable {P:Program} {w w':World} {D D':Nat->Prop} {ι ι':Names}
def cC (P:Program) (w:World) (D:Nat->Prop) (ι:Names) (env:Env) (a:Act):Prop:=∀t,dh P w D ι (env t) (a.tmps.getD t undef)
theorem se {vs:List Value} {cs:List K} (h:vs.mapM Hc=some cs):cs.length=vs.length/\∀(j:Nat) (c:K),cs[j]? =some c->vs[j]? =some c.val:=by
 induction vs generalizing cs with
 |nil=>simp at h;subst h;simp
 |cons v r ih=>
  simp only[List.mapM_cons,Option.bind_eq_bind,Option.bind_eq_some_iff]at h
  obtain⟨c,hc,ql,dw,h⟩:=h
  simp at h;subst h
  obtain⟨h1,h2⟩:=ih dw
  refine⟨by simp[h1],fun j d hd=>?_⟩
  cases j with
  |zero=>simp at hd ⊢;subst hd;exact zU hc
  |succ j=>simp at hd ⊢;exact h2 j d hd
theorem VH {vs:List Value} {cs:List K} (h:vs.mapM Hc=some cs):dh P w D ι (.agg (cs.map K.av)) (.agg vs.toArray):=by
 obtain⟨h1,h2⟩:=se h
 refine .agg _ _ (fun j=>vs.getD j undef) (by simp[h1]) (fun a ha=>?_) (fun j hj=>?_) (fun j a ha=>?_)
 ·obtain⟨c,_,rfl⟩:=List.mem_map.1 ha;exact c.mZ
 ·simp at hj;simp[List.getElem?_eq_getElem (show j<vs.length by omega)]
 ·simp only[List.getElem?_map,Option.map_eq_some_iff]at ha
  obtain⟨c,hc,rfl⟩:=ha
  rw[List.getD_eq_getElem?_getD,h2 j c hc];exact wZ c
theorem dp {env:Env} {a:Act} {x:Operand} {y:O} (E:cC P w D ι env a) (h:cO P x=some y):dh P w D ι (dc env y) (a.eval x):=by
 unfold cO at h
 split at h
 ·simp at h;subst h;exact E _
 ·simp only[Option.map_eq_some_iff]at h
  obtain⟨cs,dw,rfl⟩:=h
  have:=VH (P:=P) (w:=w) (D:=D) (ι:=ι) dw
  simpa[Act.eval,dc]using this
 ·simp only[Option.map_eq_some_iff]at h
  obtain⟨c,hc,rfl⟩:=h
  simp only[Act.eval,dc]
  rw[zU hc];exact wZ c
 ·simp at h
 ·split at h
  ·rename_i hc
   simp at h;subst h
   simp only[Act.eval,dc]
   exact .fn _ _ _ (fun _=>undef) hc rfl (fun j hj=>by simp at hj) (fun j a h=>by simp at h)
  ·simp at h
def oI (P:Program) (a:Act) (o:Oper) (w:World) (D:Nat->Prop) (ι:Names) (v:AV):Prop:=∃u,(execOp a.eval o).run P w=.ok (.value u) w/\dh P w D ι v u
section
variable {g:Rows} {hs:Nat} {env:Env} {a:Act} {o:Oper} {id:Id} {v:AV}
theorem NY {x:Operand} {y:O} (E:cC P w D ι env a) (ho:o.op=.move x∨o.op=.assign x) (hx:cO P x=some y):oI P a o w D ι (dc env y):=by
 refine⟨a.eval x,?_,dp E hx⟩
 rcases ho with h|h<;>simp[execOp,h,go_sem]
theorem Qg {c x y:Operand} {c' x' y':O} (E:cC P w D ι env a) (ho:o.op=.pick c x y) (hc:cO P c=some c') (hx:cO P x=some x') (hy:cO P y=some y') (hv:cY (dc env c') (dc env x') (dc env y')=some v):oI P a o w D ι v:=by
 unfold cY at hv
 split at hv
 ·rename_i b hb
  simp at hv;subst hv
  have h1:=fb (hb▸dp E hc)
  refine⟨if b then a.eval x else a.eval y,by simp only[execOp,ho,h1,asBool];rfl,?_⟩
  cases b
  ·exact dp E hy
  ·exact dp E hx
 ·simp at hv
theorem SM {op:BinOp} {x y:Operand} {x' y':O} {t yt:TypeId} (E:cC P w D ι env a) (ho:o.op=.binOp op t x y yt) (he:op≠.eql) (hn:op≠.neq) (hx:cO P x=some x') (hy:cO P y=some y') (hv:ea op (dc env x') (dc env y')=some v):oI P a o w D ι v:=by
 unfold ea at hv
 split at hv
 ·rename_i k n k' m hb td
  split at hv
  ·rename_i hk
   subst hk
   have h1:=dt (hb▸dp E hx)
   have h2:=dt (td▸dp E hy)
   have key:∀u,(binOp op t (.int k n) (.int k m)).run P w=.ok u w->(execOp a.eval o).run P w=.ok (.value u) w:=fun u hu=>by
    have e0:eqGuard op t x y (.int k n) (.int k m)=pure ():=by unfold eqGuard;cases op<;>rfl
    simp only[execOp,ho,h1,h2,e0]
    simp[go_sem,hu]
   cases op<;>simp only[dC]at hv<;>(try(simp at hv;done))<;>(try split at hv)<;>(try(simp at hv;done))<;>simp only[Option.some.injEq]at hv<;>subst hv<;>
    (refine⟨_,key _ (by simp only[binOp,ne_eq,not_true_eq_false,if_false,Op.intArith,Op.intDiv,Op.intBits,Op.intCmp, *];rfl),?_⟩)<;>
    first
     |exact .eS _ _ (.int _ _)
     |exact .eS _ _ (.bool _)
  ·simp at hv
 ·simp at hv
theorem P0 {op:BinOp} {x y:Operand} {x' y':O} {t yt:TypeId} (E:cC P w D ι env a) (ho:o.op=.binOp op t x y yt) (he:op≠.eql) (hn:op≠.neq) (hx:cO P x=some x') (hy:cO P y=some y') (hv:cZ op (dc env x') (dc env y')=some v):oI P a o w D ι v:=by
 unfold cZ at hv
 split at hv
 ·rename_i n m hb td
  have h1:=fH (hb▸dp E hx)
  have h2:=fH (td▸dp E hy)
  cases op<;>simp only[eo]at hv<;>(try(simp at hv;done))
  case add=>
   split at hv
   ·rename_i hl
    simp only[Option.some.injEq]at hv;subst hv
    exact⟨_,by simp only[execOp,ho,h1,h2];simp[eqGuard,binOp,go_sem];exact hl,.eS _ _ (.str _)⟩
   ·simp at hv
  all_goals
   simp only[Option.some.injEq]at hv;subst hv
   exact⟨_,by simp only[execOp,ho,h1,h2];simp[eqGuard,binOp,Op.stringOp,go_sem],.eS _ _ (.bool _)⟩
 ·simp at hv
theorem Ga (n m:ByteArray):(n.toList==m.toList)=decide (n=m):=by
 rw[ByteArray.toList_eq,ByteArray.toList_eq]
 by_cases h:n=m
 ·subst h;simp
 ·have:n.data.toList≠m.data.toList:=fun he=>h (ByteArray.ext (Array.ext' he))
  rw[decide_eq_false h];exact beq_eq_false_iff_ne.2 this
theorem pK {t:TypeId} (h:fw P t=some .tB):P.underlying t=some .bool:=by unfold fw at h;split at h<;>simp_all
theorem pM {t:TypeId} (h:fw P t=some .tI):∃k,P.underlying t=some (.int k):=by unfold fw at h;split at h<;>simp_all
theorem pN {t:TypeId} (h:fw P t=some .tS):P.underlying t=some .string:=by unfold fw at h;split at h<;>simp_all
theorem sr {d:Nat} {t:TypeId} {s:TS} {x y:AV} {u u':Value} {b:Bool} (hx:dh P w D ι x u) (hy:dh P w D ι y u') (hv:fX s x y=some b) (ht:fw P t=some s):(Op.equalIn (d+1) t u u').run P w=.ok b w:=by
 unfold fX at hv
 split at hv
 ·rename_i k n k' m
  split at hv
  ·rename_i hk
   subst hk
   simp at hv;subst hv
   obtain⟨q,hq⟩:=pM ht
   rw[dt hx,dt hy,run_equalIn_int _ _ _ _ _ _ _ hq];rfl
  ·simp at hv
 ·simp at hv;subst hv
  rw[fb hx,fb hy,run_equalIn_bool' _ _ _ _ _ (pK ht)]
 ·simp at hv;subst hv
  rw[fH hx,fH hy,run_equalIn_string _ _ _ _ _ (pN ht),Ga]
 ·simp at hv
def fo (P:Program) (w:World) (D:Nat->Prop) (ι:Names) (xs:List AV) (vs:Array Value):Prop:=vs.size=xs.length/\∀(j:Nat) (a:AV),xs[j]? =some a->∃u,vs[j]? =some u/\dh P w D ι a u
theorem fo.part {xs:List AV} {vs:Array Value} (h:fo P w D ι xs vs) (off n:Nat) (hn:off+n<=xs.length):fo P w D ι ((xs.drop off).take n) (vs.extract off (off+n)):=by
 refine⟨by simp[h.1];omega,fun j a ha=>?_⟩
 rw[List.getElem?_take]at ha
 split at ha
 ·rename_i hj
  rw[List.getElem?_drop]at ha
  obtain⟨u,h1,h2⟩:=h.2 _ _ ha
  refine⟨u,?_,h2⟩
  rw[Array.getElem?_extract]
  rw[if_pos (by rw[h.1];omega),h1]
 ·simp at ha
theorem rS:∀{ts:List TS} {xs ys:List AV} {b:Bool},eY ts xs ys=some b->xs.length=ts.length/\ys.length=ts.length
 |[],[],[],_,_=>⟨rfl,rfl⟩
 |t::ts,x::xs,y::ys,b,h=>by
  unfold eY at h
  split at h
  ·rename_i c d h1 h2
   have:=rS h2
   simp[this.1,this.2]
  ·simp at h
 |[],[],_::_,_,h=>by simp[eY]at h
 |[],_::_,_,_,h=>by simp[eY]at h
 |_::_,[],_,_,h=>by simp[eY]at h
 |_::_,_::_,[],_,h=>by simp[eY]at h
theorem FA:∀{ts us:List TS} {xs ys:List AV} {b:Bool},eY (ts++us) xs ys=some b->∃c d,eY ts (xs.take ts.length) (ys.take ts.length)=some c/\eY us (xs.drop ts.length) (ys.drop ts.length)=some d/\b=(c&&d)
 |[],us,xs,ys,b,h=>⟨true,b,by simp[eY],by simpa using h,by simp⟩
 |t::ts,us,x::xs,y::ys,b,h=>by
  simp only[List.cons_append]at h
  unfold eY at h
  split at h
  ·rename_i c d h1 h2
   obtain⟨c',d',h3,h4,rfl⟩:=FA h2
   simp at h;subst h
   exact⟨c&&c',d',by simp[eY,h1,h3],by simpa using h4,by simp[Bool.and_assoc]⟩
  ·simp at h
 |t::ts,us,[],ys,b,h=>by simp[eY]at h
 |t::ts,us,x::xs,[],b,h=>by simp[eY]at h
theorem mJ {t:TypeId} {vs:Array Value} {off:Nat} {u:Value} (ha:n9 P t=some false) (hu:vs[off]? =some u):(Go.part t vs off).run P w=.ok u w:=by
 unfold n9 at ha
 have hi:(isAgg t).run P w=.ok false w:=by
  split at ha<;>simp at ha
  rename_i d h1 h2 hd
  simp only[isAgg,Sem.run_bind,run_underlying hd,Result.andThen_ok]
  cases d<;>simp_all
 simp[Go.part,hi,hu]
theorem tz {t:TypeId} {b:Bool} (ha:n9 P t=some b):(isAgg t).run P w=.ok b w:=by
 unfold n9 at ha
 split at ha<;>simp at ha<;>subst ha<;>rename_i hd<;>simp only[isAgg,Sem.run_bind,run_underlying hd,Result.andThen_ok]<;>(try simp)
theorem run_sizeOf {t:TypeId} {n:Nat} (h:ep P t=some n):(sizeOf t).run P w=.ok n w:=by
 unfold ep at h
 simp only[Option.map_eq_some_iff]at h
 obtain⟨i,hi,rfl⟩:=h
 simp[sizeOf,typeInfo,hi]
theorem pJ {t:TypeId} {vs:Array Value} {off n:Nat} (ha:n9 P t=some true) (hn:ep P t=some n):(Go.part t vs off).run P w=.ok (.agg (vs.extract off (off+n))) w:=by
 simp[Go.part,tz ha,run_sizeOf hn]
theorem Jc (d off:Nat):eK P (d+1) off []=some []:=rfl
theorem yn (d off:Nat) (f:Field) (r:List Field):eK P (d+1) off (f::r)=(if f.offset=off/\f.name≠ "_" then
   match fw P f.type with
   |some t=>if n9 P f.type=some false then(eK P (d+1) (off+1) r).map (t::·)else none
   |none=>match P.underlying f.type with
    |some (.struct fs)=>if !P.stoodInHeld f.type then match eK P d 0 fs.toList with
     |some ts=>if ep P f.type=some ts.length/\ts≠[]then(eK P (d+1) (off+ts.length) r).map (ts++·)else none
     |none=>none else none
    |_=>none
  else none):=rfl
theorem sq:∀(d:Nat) (fs:List Field) (off:Nat) (ts:List TS),eK P d off fs=some ts->∀(N:Nat) (_:d<=N) (xs ys:List AV) (vs us:Array Value) (b:Bool),fo P w D ι xs vs->fo P w D ι ys us->
  eY ts ((xs.drop off).take ts.length) ((ys.drop off).take ts.length)=some b->(Op.eqFields (N+1) vs us fs).run P w=.ok b w:=by
 intro d
 induction d with
 |zero=>
  intro fs off ts hf N _ xs ys vs us b _ _ he
  cases fs with
  |nil=>simp[eK]at hf;subst hf;simp[eY]at he;subst he;simp[Op.eqFields]
  |cons f r=>simp[eK]at hf
 |succ d ihd=>
  intro fs
  induction fs with
  |nil=>
   intro off ts hf N _ xs ys vs us b _ _ he
   rw[Jc]at hf;simp at hf;subst hf;simp[eY]at he;subst he;simp[Op.eqFields]
  |cons f r ih=>
   intro off ts hf N hN xs ys vs us b hx hy he
   rw[yn]at hf
   split at hf
   ·rename_i hcond
    obtain⟨ho,il⟩:=hcond
    split at hf
    ·rename_i s hs
     split at hf
     ·rename_i uR
      simp only[Option.map_eq_some_iff]at hf
      obtain⟨Lh,hr,rfl⟩:=hf
      obtain⟨l1,l2⟩:=rS he
      simp only[List.length_cons,List.length_take,List.length_drop]at l1 l2
      have A5:off<xs.length:=by omega
      have hyo:off<ys.length:=by omega
      rw[List.drop_eq_getElem_cons A5,List.drop_eq_getElem_cons hyo,List.length_cons,List.take_succ_cons,List.take_succ_cons]at he
      unfold eY at he
      split at he
      ·rename_i c d' h1 h2
       simp at he;subst he
       obtain⟨u,hu,ru⟩:=hx.2 off _ (List.getElem?_eq_getElem A5)
       obtain⟨u',FM,ru'⟩:=hy.2 off _ (List.getElem?_eq_getElem hyo)
       have:=ih (off+1) Lh hr N hN xs ys vs us d' hx hy h2
       simp only[Op.eqFields,if_pos il,Sem.run_bind,ho,mJ uR hu,mJ uR FM,Result.andThen_ok,sr ru ru' h1 hs,Sem.run_ite]
       cases c<;>simp[this]
      ·simp at he
     ·simp at hf
    ·split at hf
     ·rename_i Rg rV
      split at hf
      ·rename_i dQ
       split at hf
       ·rename_i ts1 hts1
        split at hf
        ·rename_i fh
         simp only[Option.map_eq_some_iff]at hf
         obtain⟨Lh,hr,rfl⟩:=hf
         obtain⟨c,d',h1,h2,rfl⟩:=FA he
         obtain⟨l1,l2⟩:=rS he
         simp only[List.length_append,List.length_take,List.length_drop]at l1 l2
         have uR:n9 P f.type=some true:=by simp[n9,rV]
         have lJ:0<ts1.length:=List.length_pos_iff.2 fh.2
         have JH:off+ts1.length<=xs.length:=by omega
         have Sg:off+ts1.length<=ys.length:=by omega
         rw[List.drop_take,List.drop_drop,List.drop_take,List.drop_drop]at h2
         rw[List.take_take,List.take_take]at h1
         simp only[List.length_append]at h1 h2
         rw[Nat.min_eq_left (by omega)]at h1
         have e2:ts1.length+Lh.length-ts1.length=Lh.length:=by omega
         rw[e2]at h2
         have:=ih (off+ts1.length) Lh hr N hN xs ys vs us d' hx hy h2
         have fB:=ihd Rg.toList 0 ts1 hts1 (N-1) (by omega) _ _ _ _ c (hx.part off ts1.length JH) (hy.part off ts1.length Sg) (by simpa[List.take_take]using h1)
         have hN':N-1+1=N:=by omega
         rw[hN']at fB
         have Ny:P.fieldsOf f.type=Rg:=by simp[Program.fieldsOf,rV]
         simp only[Op.eqFields,if_pos il,Sem.run_bind,ho,pJ uR fh.1,Result.andThen_ok,Sem.run_ite]
         rw[run_equalIn_struct w N f.type _ _ (by rw[Ny];exact rV) (by simpa using dQ),Ny,fB]
         cases c<;>simp[this]
        ·simp at hf
       ·simp at hf
      ·simp at hf
     ·simp at hf
   ·simp at hf
theorem SQ {x y:Operand} {x' y':O} {t yt:TypeId} {neg:Bool} {s:TS} {b:Bool} (E:cC P w D ι env a) (ho:o.op=.binOp (if neg then .neq else .eql) t x y yt) (hs:fw P t=some s) (hx:cO P x=some x') (hy:cO P y=some y')
  (hv:fX s (dc env x') (dc env y')=some b):oI P a o w D ι (.bool (dr neg b)):=by
 have rx:=dp E hx
 have ry:=dp E hy
 refine⟨.bool (dr neg b),?_,.eS _ _ (.bool _)⟩
 have e0:(eqGuard (if neg then .neq else .eql) t x y (a.eval x) (a.eval y)).run P w=.ok () w:=by
  unfold fX at hv
  split at hv
  ·rename_i k n k' m h1 h2
   rw[h1]at rx;rw[h2]at ry
   rw[dt rx,dt ry];unfold eqGuard;cases neg<;>simp
  ·rename_i n m h1 h2
   rw[h1]at rx;rw[h2]at ry
   rw[fb rx,fb ry];unfold eqGuard;cases neg<;>simp
  ·rename_i n m h1 h2
   rw[h1]at rx;rw[h2]at ry
   rw[fH rx,fH ry];unfold eqGuard;cases neg<;>simp
  ·simp at hv
 have e1:(binOp (if neg then .neq else .eql) t (a.eval x) (a.eval y)).run P w=.ok (.bool (dr neg b)) w:=by
  have q:=sr (d:=9999) rx ry hv hs
  unfold fX at hv
  split at hv
  ·rename_i k n k' m h1 h2
   split at hv
   ·rename_i hk
    subst hk
    simp at hv;subst hv
    rw[h1]at rx;rw[h2]at ry
    rw[dt rx,dt ry]
    cases neg<;>simp only[binOp,ne_eq,not_true_eq_false,if_false,Op.intCmp,dr,if_true,Bool.false_eq_true]<;>simp[bne]<;>rfl
   ·simp at hv
  ·rename_i n m h1 h2
   rw[h1]at rx;rw[h2]at ry
   rw[fb rx,fb ry]at q ⊢
   cases neg<;>simp only[binOp,dr,if_true,Bool.false_eq_true,if_false,Sem.run_bind]<;>simp[Op.equal,Op.maxDepth,q]
  ·rename_i n m h1 h2
   simp at hv;subst hv
   rw[h1]at rx;rw[h2]at ry
   rw[fH rx,fH ry]
   cases neg<;>simp[binOp,Op.stringOp,dr,Ga]
  ·simp at hv
 simp only[execOp,ho,Sem.run_bind,e0,e1,Result.andThen_ok,Sem.run_pure]
theorem SO {x y:Operand} {x' y':O} {t yt:TypeId} {neg:Bool} {ts:List TS} {fs:Array Field} {xs ys:List AV} {b:Bool} (E:cC P w D ι env a) (ho:o.op=.binOp (if neg then .neq else .eql) t x y yt) (rV:P.underlying t=some (.struct fs)) (dQ:P.stoodInHeld t=false) (xL:P.eqGuardType P.depth t=false)
  (xP:eK P 4 0 fs.toList=some ts) (hx:cO P x=some x') (hy:cO P y=some y') (h1:dc env x'=.agg xs) (h2:dc env y'=.agg ys)
  (hv:eY ts xs ys=some b):oI P a o w D ι (.bool (dr neg b)):=by
 obtain⟨vs,f,rx,n1,_,f1,r1⟩:=iA (h1▸dp E hx)
 obtain⟨us,f',ry,n2,_,f2,r2⟩:=iA (h2▸dp E hy)
 refine⟨.bool (dr neg b),?_,.eS _ _ (.bool _)⟩
 obtain⟨l1,l2⟩:=rS hv
 have L:∀(xs:List AV) (vs:Array Value) (f:Nat->Value),vs.size=xs.length->(∀j,j<xs.length->vs[j]? =some (f j))->(∀j a,xs[j]? =some a->dh P w D ι a (f j))->fo P w D ι xs vs:=fun xs vs f h1 h2 h3=>
  ⟨h1,fun j a ha=>⟨f j,h2 j (List.getElem?_eq_some_iff.1 ha).1,h3 j a ha⟩⟩
 have q:=sq (w:=w) 4 fs.toList 0 ts xP 9998 (by omega) xs ys vs us b (L _ _ _ n1 f1 r1) (L _ _ _ n2 f2 r2) (by simpa[List.take_of_length_le,l1,l2]using hv)
 have Ny:P.fieldsOf t=fs:=by simp[Program.fieldsOf,rV]
 have q2:(Op.equal t (.agg vs) (.agg us)).run P w=.ok b w:=by
  unfold Op.equal
  rw[show Op.maxDepth=9999+1 from rfl,run_equalIn_struct w 9999 t _ _ (by rw[Ny];exact rV) dQ,Ny,q]
 simp only[execOp,ho,Sem.run_bind,rx,ry,run_eqGuard_agg w _ _ _ _ _ _ xL,Result.andThen_ok]
 cases neg<;>simp[binOp,q2,dr]
theorem P5 {x:Operand} {x':O} {t yt e:TypeId} {neg:Bool} {b:Bool} (E:cC P w D ι env a) (ho:o.op=.binOp (if neg then .neq else .eql) t x (.const (.slice none 0 0)) yt) (ht:P.underlying t=some (.slice e)) (hx:cO P x=some x')
  (hv:cX (dc env x')=some b):oI P a o w D ι (.bool (dr neg b)):=by
 have hr:=dp E hx
 have rx:∃A n c,a.eval x=.slice A n c/\b=A.isNone:=by
  unfold cX at hv
  split at hv<;>simp at hv<;>subst hv<;>rename_i hh
  ·rw[hh]at hr;exact⟨_,_,_,iR hr,rfl⟩
  ·rw[hh]at hr;obtain⟨o,cap,B,h,_⟩:=iT hr
   exact⟨_,_,_,h,rfl⟩
  ·rw[hh]at hr
   obtain⟨A,c,h',_,_,h⟩:=w6 hr
   rcases h with h|⟨b,o,sz,vs,rfl,_⟩
   ·simp at h
   ·exact⟨_,_,_,h',rfl⟩
 refine⟨.bool (dr neg b),?_,.eS _ _ (.bool _)⟩
 obtain⟨A,n,c,h,rfl⟩:=rx
 have hq:(Op.equal t (.slice A n c) (.slice none 0 0)).run P w=.ok A.isNone w:=by
  unfold Op.equal
  rw[show Op.maxDepth=9999+1 from rfl,Op.equalIn]
  simp only[Sem.run_bind,run_underlying ht,Result.andThen_ok]
  cases A<;>rfl
 have hc:a.eval (.const (.slice none 0 0))=.slice none 0 0:=rfl
 simp only[execOp,ho,h,hc]
 cases neg<;>simp only[Bool.false_eq_true,if_false,if_true,Bool.not_true,Bool.not_false,eqGuard,binOp,dr,Sem.run_bind,hq,Result.andThen_ok,Sem.run_pure]
theorem SP {x:Operand} {x':O} {t yt e:TypeId} {neg:Bool} {b:Bool} (E:cC P w D ι env a) (ho:o.op=.binOp (if neg then .neq else .eql) t x (.const (.pointer none)) yt) (ht:P.underlying t=some (.pointer e)) (hx:cO P x=some x')
  (hv:KQ (dc env x')=some b):oI P a o w D ι (.bool (dr neg b)):=by
 have hr:=dp E hx
 have rx:∃A,a.eval x=.pointer A/\b=A.isNone:=by
  unfold KQ at hv
  split at hv<;>simp at hv<;>subst hv<;>rename_i hh
  ·rw[hh]at hr;exact⟨_,Km hr,rfl⟩
  ·rw[hh]at hr;obtain⟨B,h,_⟩:=iU hr
   exact⟨_,h,rfl⟩
  ·rw[hh]at hr;obtain⟨_,_,_,h,_⟩:=lp hr
   exact⟨_,h,rfl⟩
 refine⟨.bool (dr neg b),?_,.eS _ _ (.bool _)⟩
 obtain⟨A,h,rfl⟩:=rx
 have hq:(Op.equal t (.pointer A) (.pointer none)).run P w=.ok A.isNone w:=by
  unfold Op.equal
  rw[show Op.maxDepth=9999+1 from rfl,Op.equalIn]
  simp only[Sem.run_bind,run_underlying ht,Result.andThen_ok]
  cases A<;>rfl
 have hc:a.eval (.const (.pointer none))=.pointer none:=rfl
 simp only[execOp,ho,h,hc]
 cases neg<;>simp only[Bool.false_eq_true,if_false,if_true,Bool.not_true,Bool.not_false,eqGuard,binOp,dr,Sem.run_bind,hq,Result.andThen_ok,Sem.run_pure]
theorem P4 {x:Operand} {x':O} {t yt:TypeId} {p r:Array TypeId} {va:Bool} {neg:Bool} {b:Bool} (E:cC P w D ι env a) (ho:o.op=.binOp (if neg then .neq else .eql) t x (.const .nilFunc) yt) (ht:P.underlying t=some (.func p r va)) (hx:cO P x=some x')
  (hv:cW (dc env x')=some b):oI P a o w D ι (.bool (dr neg b)):=by
 have hr:=dp E hx
 have rx:a.eval x=.nilFunc/\b=true∨∃f c,a.eval x=.func f #[] c/\b=false:=by
  unfold cW at hv
  split at hv<;>simp at hv<;>subst hv<;>rename_i hh
  ·rw[hh]at hr;exact .inl ⟨w5 hr,rfl⟩
  ·rw[hh]at hr;obtain⟨vs,g,h,_⟩:=wY hr
   exact .inr ⟨_,_,h,rfl⟩
 refine⟨.bool (dr neg b),?_,.eS _ _ (.bool _)⟩
 have hc:a.eval (.const .nilFunc)=.nilFunc:=rfl
 rcases rx with⟨h,rfl⟩|⟨f,c,h,rfl⟩
 ·have hq:(Op.equal t .nilFunc .nilFunc).run P w=.ok true w:=by
   unfold Op.equal
   rw[show Op.maxDepth=9999+1 from rfl,Op.equalIn]
   simp only[Sem.run_bind,run_underlying ht,Result.andThen_ok]
   rfl
  simp only[execOp,ho,h,hc]
  cases neg<;>simp only[Bool.false_eq_true,if_false,if_true,Bool.not_true,Bool.not_false,eqGuard,binOp,dr,Sem.run_bind,hq,Result.andThen_ok,Sem.run_pure]
 ·have hq:(Op.equal t (.func f #[] c) .nilFunc).run P w=.ok false w:=by
   unfold Op.equal
   rw[show Op.maxDepth=9999+1 from rfl,Op.equalIn]
   simp only[Sem.run_bind,run_underlying ht,Result.andThen_ok]
   rfl
  simp only[execOp,ho,h,hc]
  cases neg<;>simp only[Bool.false_eq_true,if_false,if_true,Bool.not_true,Bool.not_false,eqGuard,binOp,dr,Sem.run_bind,hq,Result.andThen_ok,Sem.run_pure]
theorem SU {x:Operand} {x':O} {t:TypeId} (E:cC P w D ι env a) (ho:o.op=.unOp .not t x) (hx:cO P x=some x') (hv:eh (dc env x')=some v):oI P a o w D ι v:=by
 have hr:=dp E hx
 unfold eh at hv
 split at hv
 ·rename_i b hb
  simp at hv;subst hv
  rw[hb]at hr
  exact⟨_,by simp only[execOp,ho,fb hr];rfl,.eS _ _ (.bool _)⟩
 ·simp at hv
theorem SS {x:Operand} {x':O} {t:TypeId} (E:cC P w D ι env a) (ho:o.op=.unOp .neg t x) (hx:cO P x=some x') (hv:ee (dc env x')=some v):oI P a o w D ι v:=by
 have hr:=dp E hx
 unfold ee at hv
 split at hv
 ·rename_i k n hb
  simp at hv;subst hv
  rw[hb]at hr
  refine⟨_,by simp only[execOp,ho,dt hr];rfl,?_⟩
  rw[Int.zero_sub];exact .eS _ _ (.int _ _)
 ·simp at hv
theorem P3 {x:Operand} {x':O} {s d:TypeId} {k q:IntKind} (E:cC P w D ι env a) (ho:o.op=.convert s d x) (hs:P.underlying s=some (.int q)) (hd:P.underlying d=some (.int k)) (hx:cO P x=some x') (hv:cL k (dc env x')=some v):oI P a o w D ι v:=by
 have hr:=dp E hx
 unfold cL at hv
 split at hv
 ·rename_i k' n hb
  simp at hv;subst hv
  rw[hb]at hr
  refine⟨.int k (k.wrap n),?_,.eS _ _ (.int _ _)⟩
  simp only[execOp,ho,dt hr,convert,Sem.run_bind,run_underlying hs,run_underlying hd,Result.andThen_ok,Conv.intToInt,Sem.run_pure]
 ·simp at hv
theorem Nf {x:Operand} {x':O} {s:TypeId} {i:Nat} {fs:Array Field} {f:Field} {m:Nat} (E:cC P w D ι env a) (ho:o.op=.fieldAddr s x i) (hs:P.underlying s=some (.struct fs)) (hf:fs[i]? =some f) (hm:ep P f.type=some (m+1)) (hx:cO P x=some x')
  (hv:E8 f.offset (dc env x')=some v):oI P a o w D ι v:=by
 have hr:=dp E hx
 have go:∀b oo,a.eval x=.pointer (some ⟨b,oo,none⟩)->(execOp a.eval o).run P w=.ok (.value (.pointer (some ⟨b,oo+f.offset,none⟩))) w:=fun b oo h=>by
  simp only[execOp,ho,h,Instr.fieldAt,Sem.run_bind,run_underlying hs,Result.andThen_ok,hf,Instr.sureAddr,Sem.run_pure,fieldPlace,run_sizeOf hm,Nat.add_eq_zero_iff,Nat.one_ne_zero,and_false,if_false,Addr.add]
  split
  ·rename_i h0;simp[h0]
  ·rfl
 unfold E8 at hv
 split at hv
 ·rename_i k6 i' oo hb
  simp at hv;subst hv
  rw[hb]at hr
  obtain⟨B,h,hB,hk⟩:=iU hr
  refine⟨_,go _ _ h,?_⟩
  rw[Nat.add_assoc]
  exact .ptr _ _ _ _ hB hk
 ·rename_i cs hb
  simp at hv;subst hv
  rw[hb]at hr
  obtain⟨b,oo,vs,h,h1,h2,h3,h4⟩:=lp hr
  refine⟨_,go _ _ h,.eS _ _ (.dn _ _ _ (fun j=>vs (f.offset+j)) h1 (fun a ha=>h2 a (List.mem_of_mem_drop ha)) (fun j hj=>?_) (fun j a ha=>h4 _ _ (by simpa using ha)))⟩
  rw[Nat.add_assoc]
  exact h3 _ (by simp at hj;omega)
 ·simp at hv
theorem Ng {x:Operand} {x':O} {s:TypeId} {i n:Nat} {ag:Bool} {fs:Array Field} {f:Field} (E:cC P w D ι env a) (ho:o.op=.field s x i) (hs:P.underlying s=some (.struct fs)) (hf:fs[i]? =some f) (uR:n9 P f.type=some ag) (hm:ep P f.type=some n) (hx:cO P x=some x')
  (hv:bK ag f.offset n (dc env x')=some v):oI P a o w D ι v:=by
 have hr:=dp E hx
 unfold bK at hv
 split at hv
 ·rename_i cs hb
  split at hv
  ·rename_i hl
   rw[hb]at hr
   obtain⟨vs,g,h,n1,fl,f1,r1⟩:=iA hr
   unfold part at hv
   cases ag with
   |true=>
    simp only[if_true]at hv
    split at hv
    ·simp at hv;subst hv
     refine⟨.agg (vs.extract f.offset (f.offset+n)),?_,.agg _ _ (fun j=>g (f.offset+j)) (by simp[n1];omega) (fun a ha=>fl a (List.mem_of_mem_drop (List.mem_of_mem_take ha))) (fun j hj=>?_) (fun j a ha=>?_)⟩
     ·simp only[execOp,ho,h,Instr.field,Sem.run_bind,run_underlying hs,Result.andThen_ok,hf,asAgg,Sem.run_pure,pJ uR hm]
     ·simp at hj
      rw[Array.getElem?_extract,if_pos (by omega)];exact f1 _ (by omega)
     ·rw[List.getElem?_take]at ha
      split at ha
      ·exact r1 _ _ (by simpa using ha)
      ·simp at ha
    ·simp at hv
   |false=>
    simp only[Bool.false_eq_true,if_false]at hv
    have oi:cs[f.offset]? =some v:=by simpa[List.head?_drop]using hv
    have dV:=(List.getElem?_eq_some_iff.1 oi).1
    exact⟨g f.offset,by simp only[execOp,ho,h,Instr.field,Sem.run_bind,run_underlying hs,Result.andThen_ok,hf,asAgg,Sem.run_pure,mJ uR (f1 _ dV)],r1 _ _ oi⟩
  ·simp at hv
 ·simp at hv
theorem SV {left:Bool} {x y:Operand} {x' y':O} {t yt:TypeId} (E:cC P w D ι env a) (ho:o.op=.binOp (if left then .shl else .shr) t x y yt) (hx:cO P x=some x') (hy:cO P y=some y') (hv:gV left (dc env x') (dc env y')=some v):oI P a o w D ι v:=by
 unfold gV at hv
 split at hv
 ·rename_i k n k' m hb td
  split at hv
  ·simp at hv
  ·rename_i hm
   simp at hv;subst hv
   have h1:=dt (hb▸dp E hx)
   have h2:=dt (td▸dp E hy)
   refine⟨_,?_,.eS _ _ (.int _ _)⟩
   simp only[execOp,ho,h1,h2]
   cases left<;>simp only[Bool.false_eq_true,if_false,if_true,eqGuard,Bool.not_true,Bool.not_false,binOp,Op.shift,hm,Sem.run_bind,Sem.run_pure,Result.andThen_ok]<;>rfl
 ·simp at hv
end
end Go.Proofs.YtgoljkjaameagaaGreat.V

namespace Go.Proofs.YtgoljkjaameagaaGreat.V
open Go.RowKit
variable {P:Program} {w w':World} {D D':Nat->Prop} {ι ι':Names}
theorem ko (b o j:Nat):(⟨b,o,none⟩:Addr).add j=⟨b,o+j,none⟩:=by unfold Addr.add;split<;>simp_all
section
variable {g:Rows} {hs:Nat} {env:Env} {a:Act} {o:Oper} {id:Id} {v:AV}
theorem kQ {t:TypeId} {ag:Bool} {n b oo:Nat} {cs:List AV} {v:AV} {f:Nat->Value} (uR:n9 P t=some ag) (hn:ep P t=some n) (hp:part ag n cs=some v) (fl:∀a∈cs,a.cell=true)
  (hc:∀j,j<cs.length->w.cell? ⟨b,oo+j,none⟩=some (f j)) (hr:∀j a,cs[j]? =some a->dh P w D ι a (f j)):∃u,(loadVar t ⟨b,oo,none⟩).run P w=.ok u w/\dh P w D ι v u:=by
 unfold part at hp
 cases ag with
 |true=>
  simp only[if_true]at hp
  split at hp
  ·rename_i hl
   simp at hp;subst hp
   refine⟨.agg ((List.range n).map f).toArray,?_,.agg _ _ f (by simp;omega) (fun a ha=>fl a (List.mem_of_mem_take ha)) (fun j hj=>?_) (fun j a ha=>?_)⟩
   ·simp only[loadVar,Sem.run_bind,tz uR,Result.andThen_ok,if_true,run_sizeOf hn,Sem.run_pure]
    rw[run_loadCells w _ n f (fun j hj=>by rw[ko];exact hc j (by omega))]
    rfl
   ·simp at hj
    have:j<n:=by omega
    simp[this]
   ·rw[List.getElem?_take]at ha
    split at ha
    ·exact hr _ _ ha
    ·simp at ha
  ·simp at hp
 |false=>
  simp only[Bool.false_eq_true,if_false]at hp
  cases cs with
  |nil=>simp at hp
  |cons c r=>
   simp at hp;subst hp
   refine⟨f 0,?_,hr 0 _ rfl⟩
   simp only[loadVar,Sem.run_bind,tz uR,Result.andThen_ok,Bool.false_eq_true,if_false]
   have:=hc 0 (by simp)
   simp at this
   rw[run_load,this]
theorem Kr {S:gy P hs D ι g w} {i:Nat} {cs:List AV} (h:rowAt g id i=some cs) (hk:∀B,ι id=some B->B.k=none):∃B r,g id=some r/\ι id=some B/\kV P w D ι B r/\r.rows[i]? =some cs/\(∀a∈cs,a.cell=true)/\∃f:Nat->Value,∀j,j<cs.length->w.cell? ⟨B.b,i*B.sz+j,none⟩=some (f j)/\∀a,cs[j]? =some a->dh P w D ι a (f j):=by
 unfold rowAt at h
 simp only[Option.bind_eq_some_iff]at h
 obtain⟨r,hr,hi⟩:=h
 obtain⟨B,hB,R,_,_⟩:=S.row id r hr
 replace R:=R.row (hk B hB)
 refine⟨B,r,hr,hB,R,hi,R.flat cs (List.mem_of_getElem? hi),fun j=>(w.cell? ⟨B.b,i*B.sz+j,none⟩).getD undef,fun j hj=>?_⟩
 obtain⟨u,hu,xO⟩:=R.at_ i j cs _ hi (List.getElem?_eq_getElem hj)
 rw[R.sz,hu]
 refine⟨by simp only[hu,Option.getD_some],fun a ha=>?_⟩
 rw[List.getElem?_eq_getElem hj]at ha
 injection ha with ha
 subst ha
 simpa only[hu,Option.getD_some]using xO
theorem Qb {x:Operand} {x':O} {t:TypeId} {ag:Bool} {n:Nat} (S:gy P hs D ι g w) (E:cC P w D ι env a) (ho:o.op=.load t x) (uR:n9 P t=some ag) (hn:ep P t=some n) (hx:cO P x=some x') (hv:ld g ag n (dc env x')=some v):oI P a o w D ι v:=by
 have hr:=dp E hx
 have go:∀b oo u,a.eval x=.pointer (some ⟨b,oo,none⟩)->(loadVar t ⟨b,oo,none⟩).run P w=.ok u w->(execOp a.eval o).run P w=.ok (.value u) w:=fun b oo u h h2=>by
  simp only[execOp,ho,h,Instr.loadAt,Instr.sureAddr,Sem.run_bind,Sem.run_pure,Result.andThen_ok,h2]
 unfold ld at hv
 split at hv
 ·rename_i k6 i' oo hb
  rw[hb]at hr
  obtain⟨B,h,hB,hk⟩:=iU hr
  simp only[Option.bind_eq_some_iff]at hv
  obtain⟨cs,dw,hp⟩:=hv
  obtain⟨B',r,Ib,dH,R,hi,fl,f,hf⟩:=Kr (S:=S) dw (fun B2 h2=>by rw[hB]at h2;injection h2 with h2;subst h2;exact hk)
  rw[hB]at dH;injection dH with dH;subst dH
  obtain⟨u,h1,h2⟩:=kQ (w:=w) (b:=B.b) (oo:=i'*B.sz+oo) (f:=fun j=>f (oo+j)) uR hn hp (fun a ha=>fl a (List.mem_of_mem_drop ha)) (fun j hj=>by
   rw[Nat.add_assoc];exact(hf _ (by simp at hj;omega)).1) (fun j a ha=>by
   simp at ha;exact(hf _ ((List.getElem?_eq_some_iff.1 ha).1)).2 _ ha)
  exact⟨u,go _ _ _ h h1,h2⟩
 ·rename_i cs hb
  rw[hb]at hr
  obtain⟨b,oo,vs,h,h1,h2,h3,h4⟩:=lp hr
  obtain⟨u,k1,k2⟩:=kQ (w:=w) (b:=b) (oo:=oo) (f:=vs) uR hn hv h2 h3 (fun j a ha=>.eS _ _ (h4 j a ha))
  exact⟨u,go _ _ _ h k1,k2⟩
 ·simp at hv
theorem SN {x:Operand} {x':O} (E:cC P w D ι env a) (ho:o.op=.nilCheck x) (hx:cO P x=some x') (hv:eb (dc env x')=some v):oI P a o w D ι v:=by
 have hr:=dp E hx
 unfold eb at hv
 split at hv
 ·rename_i k6 i' oo hb
  simp at hv;subst hv
  rw[hb]at hr
  obtain⟨B,h,hB,hk⟩:=iU hr
  exact⟨_,by simp only[execOp,ho,h];rfl,.ptr _ _ _ _ hB hk⟩
 ·rename_i cs hb
  simp at hv;subst hv
  rw[hb]at hr
  obtain⟨b,oo,vs,h,_⟩:=lp hr
  exact⟨_,by simp only[execOp,ho,h];rfl,h▸hr⟩
 ·simp at hv
theorem Nh {x i:Operand} {x' i':O} {t e:TypeId} {m:Nat} (S:gy P hs D ι g w) (E:cC P w D ι env a) (ho:o.op=.indexAddr t x i) (ht:P.underlying t=some (.slice e)) (hm:ep P e=some (m+1)) (hx:cO P x=some x') (hi:cO P i=some i')
  (hv:bL g (m+1) (dc env x') (dc env i')=some v):oI P a o w D ι v:=by
 have hr:=dp E hx
 have Ea:=dp E hi
 have go:∀b oo n c k (q:Int),a.eval x=.slice (some ⟨b,oo,none⟩) n c->a.eval i=.int k q->0<=q->q<n->(execOp a.eval o).run P w=.ok (.value (.pointer (some ⟨b,oo+q.toNat*(m+1),none⟩))) w:=fun b oo n c k q h h2 h3 h4=>by
  simp only[execOp,ho,h,h2,Instr.indexAt,asIntOf,Sem.run_bind,Sem.run_pure,run_underlying ht,Result.andThen_ok,h3,h4,and_self,if_true,run_sizeOf hm,ko]
 unfold bL at hv
 split at hv
 ·rename_i rows k q hb td
  split at hv
  ·rename_i hq
   simp only[Option.bind_eq_some_iff]at hv
   obtain⟨cs,dw,hv⟩:=hv
   split at hv
   ·rename_i hlen
    simp at hv;subst hv
    rw[hb]at hr;rw[td]at Ea
    have dV:=(List.getElem?_eq_some_iff.1 dw).1
    obtain⟨A,c,h,h1,h2,h3⟩:=w6 hr
    rcases h3 with h3|⟨b,oo,sz,vs,rfl,hD,hl,fl,hc,hi⟩
    ·subst h3;simp at dw
    have fh:sz=m+1:=by rw[<-hlen,hl cs (List.mem_of_getElem? dw)]
    refine⟨_,go b oo _ _ k q h (dt Ea) hq (by omega),.eS _ _ (.dn cs b _ (vs q.toNat) hD (fl cs (List.mem_of_getElem? dw)) (fun j hj=>?_) (fun j a ha=>hi _ _ _ _ dw ha))⟩
    have:=hc q.toNat j dV (by rw[<-hl cs (List.mem_of_getElem? dw)];exact hj)
    rw[fh]at this
    rw[Nat.add_assoc];exact this
   ·simp at hv
  ·simp at hv
 ·rename_i k6 off len k q hb td
  split at hv
  ·rename_i hq
   simp only[Option.bind_eq_some_iff]at hv
   obtain⟨r,Ib,hv⟩:=hv
   split at hv
   ·rename_i yI
    simp at hv;subst hv
    rw[hb]at hr;rw[td]at Ea
    obtain⟨oo,cap,B,h,hB,h1,h2,h3,h4,hk⟩:=iT hr
    obtain⟨B',dH,R,_,_⟩:=S.row _ _ Ib
    rw[hB]at dH;injection dH with dH;subst dH
    replace R:=R.row hk
    have fh:B.sz=m+1:=R.sz.trans yI
    refine⟨_,go _ _ _ _ k q h (dt Ea) hq.1 hq.2,?_⟩
    have C3:oo=off*B.sz:=by rcases h2 with h2|h2<;>omega
    have:oo+q.toNat*(m+1)=(off+q.toNat)*B.sz+0:=by rw[C3,<-fh,Nat.add_mul];rfl
    rw[this]
    exact .ptr _ _ _ _ hB hk
   ·simp at hv
  ·simp at hv
 ·simp at hv
theorem P6 {x i:Operand} {x' i':O} {t e:TypeId} {m len:Nat} (E:cC P w D ι env a) (ho:o.op=.indexAddr t x i) (ht:P.underlying t=some (.array len e)) (hm:ep P e=some (m+1)) (hx:cO P x=some x') (hi:cO P i=some i')
  (hv:cN len (m+1) (dc env x') (dc env i')=some v):oI P a o w D ι v:=by
 have hr:=dp E hx
 have Ea:=dp E hi
 have go:∀b oo k (q:Int),a.eval x=.pointer (some ⟨b,oo,none⟩)->a.eval i=.int k q->0<=q->q<len->(execOp a.eval o).run P w=.ok (.value (.pointer (some ⟨b,oo+q.toNat*(m+1),none⟩))) w:=fun b oo k q h h2 h3 h4=>by
  simp only[execOp,ho,h,h2,Instr.indexAt,asIntOf,Sem.run_bind,Sem.run_pure,run_underlying ht,Instr.sureAddr,Result.andThen_ok,h3,h4,and_self,if_true,run_sizeOf hm,ko]
 unfold cN at hv
 split at hv
 ·rename_i k6 r oo k q hb td
  split at hv
  ·rename_i hq
   simp at hv;subst hv
   rw[hb]at hr;rw[td]at Ea
   obtain⟨B,h,hB,hk⟩:=iU hr
   refine⟨_,go _ _ k q h (dt Ea) hq.1 hq.2,?_⟩
   rw[Nat.add_assoc]
   exact .ptr _ _ _ _ hB hk
  ·simp at hv
 ·rename_i cs k q hb td
  split at hv
  ·rename_i hq
   simp at hv;subst hv
   rw[hb]at hr;rw[td]at Ea
   obtain⟨b,oo,vs,h,h1,h2,h3,h4⟩:=lp hr
   refine⟨_,go _ _ k q h (dt Ea) hq.1 hq.2,.eS _ _ (.dn _ _ _ (fun j=>vs (q.toNat*(m+1)+j)) h1 (fun a ha=>h2 a (List.mem_of_mem_drop ha)) (fun j hj=>?_) (fun j a ha=>h4 _ _ (by simpa using ha)))⟩
   rw[Nat.add_assoc]
   exact h3 _ (by simp at hj;omega)
  ·simp at hv
 ·simp at hv
theorem P8 {x i:Operand} {x' i':O} {t:TypeId} (E:cC P w D ι env a) (ho:o.op=.index t x i) (ht:P.underlying t=some .string) (hx:cO P x=some x') (hi:cO P i=some i')
  (hv:cQ (dc env x') (dc env i')=some v):oI P a o w D ι v:=by
 have hr:=dp E hx
 have Ea:=dp E hi
 unfold cQ at hv
 split at hv
 ·rename_i s k q hb td
  split at hv
  ·rename_i hq
   simp only[Option.map_eq_some_iff]at hv
   obtain⟨c,hc,rfl⟩:=hv
   rw[hb]at hr;rw[td]at Ea
   refine⟨_,?_,.eS _ _ (.int _ _)⟩
   simp only[execOp,ho,fH hr,dt Ea,Instr.index,asIntOf,Sem.run_bind,Sem.run_pure,run_underlying ht,Result.andThen_ok,hq,if_true,hc]
  ·simp at hv
 ·simp at hv
theorem P7 {x i:Operand} {x' i':O} {t e:TypeId} {ag:Bool} {len n:Nat} (E:cC P w D ι env a) (ho:o.op=.index t x i) (ht:P.underlying t=some (.array len e)) (uR:n9 P e=some ag) (hn:ep P e=some n) (hx:cO P x=some x') (hi:cO P i=some i')
  (hv:cP ag len n (dc env x') (dc env i')=some v):oI P a o w D ι v:=by
 have hr:=dp E hx
 have Ea:=dp E hi
 unfold cP at hv
 split at hv
 ·rename_i cs k q hb td
  split at hv
  ·rename_i hq
   rw[hb]at hr;rw[td]at Ea
   obtain⟨vs,f,h,n1,fl,f1,r1⟩:=iA hr
   have go:∀u,(Go.part e vs (q.toNat*n)).run P w=.ok u w->(execOp a.eval o).run P w=.ok (.value u) w:=fun u hu=>by
    simp only[execOp,ho,h,dt Ea,Instr.index,asIntOf,Sem.run_bind,Sem.run_pure,run_underlying ht,Result.andThen_ok,hq,and_self,if_true,run_sizeOf hn,hu]
   unfold part at hv
   cases ag with
   |true=>
    simp only[if_true]at hv
    split at hv
    ·rename_i hl
     simp at hv;subst hv
     simp only[List.length_drop]at hl
     by_cases QD:n=0
     ·subst QD
      refine⟨_,go _ (pJ uR hn),.agg _ _ (fun _=>undef) (by simp) (fun a ha=>by simp at ha) (fun j hj=>by simp at hj) (fun j a ha=>by simp at ha)⟩
     refine⟨_,go _ (pJ uR hn),.agg _ _ (fun j=>f (q.toNat*n+j)) (by simp[n1];omega) (fun a ha=>fl a (List.mem_of_mem_drop (List.mem_of_mem_take ha))) (fun j hj=>?_) (fun j a ha=>?_)⟩
     ·simp at hj
      rw[Array.getElem?_extract,if_pos (by omega)];exact f1 _ (by omega)
     ·rw[List.getElem?_take]at ha
      split at ha
      ·exact r1 _ _ (by simpa using ha)
      ·simp at ha
    ·simp at hv
   |false=>
    simp only[Bool.false_eq_true,if_false]at hv
    have oi:cs[q.toNat*n]? =some v:=by simpa[List.head?_drop]using hv
    have dV:=(List.getElem?_eq_some_iff.1 oi).1
    exact⟨_,go _ (mJ uR (f1 _ dV)),r1 _ _ oi⟩
  ·simp at hv
 ·simp at hv
theorem H6 {x:Operand} {x':O} {i:Nat} (E:cC P w D ι env a) (ho:o.op=.extract x i) (hx:cO P x=some x') (hv:aO i (dc env x')=some v):oI P a o w D ι v:=by
 have hr:=dp E hx
 unfold aO at hv
 split at hv
 ·rename_i vs hb
  rw[hb]at hr
  obtain⟨us,f,h,h1,h2,h3⟩:=uW hr
  have dV:=(List.getElem?_eq_some_iff.1 hv).1
  exact⟨_,by simp only[execOp,ho,h,Instr.extract,h2 _ dV];rfl,h3 _ _ hv⟩
 ·simp at hv
theorem SR {x:Operand} {x':O} {t:TypeId} {e:TypeId} {n:Nat} (E:cC P w D ι env a) (ho:o.op=.call {callee:=.builtin .len,args:= #[x],argTypes:= #[t]}) (ht:P.underlying t=some (.slice e)) (hx:cO P x=some x') (hv:ec (dc env x')=some n):oI P a o w D ι (.int .i64 n):=by
 have hr:=dp E hx
 have go:∀A c,a.eval x=.slice A n c->(execOp a.eval o).run P w=.ok (.value (.int .i64 n)) w:=fun A c h=>by
  simp only[execOp,ho,resolve,Sem.run_bind,Sem.run_pure,Result.andThen_ok,invoke,builtin,Array.map,h]
  simp[Builtin.len_,run_underlying ht,goInt,h]
 refine⟨.int .i64 n,?_,.eS _ _ (.int _ _)⟩
 unfold ec at hv
 split at hv<;>simp at hv<;>subst hv<;>rename_i hb<;>rw[hb]at hr
 ·exact go _ _ (iR hr)
 ·obtain⟨A,c,h,_⟩:=w6 hr;exact go _ _ h
 ·obtain⟨oo,cap,B,h,_⟩:=iT hr;exact go _ _ h
theorem Qa {x:Operand} {x':O} {t:TypeId} (E:cC P w D ι env a) (ho:o.op=.call {callee:=.builtin .len,args:= #[x],argTypes:= #[t]}) (ht:P.underlying t=some .string) (hx:cO P x=some x') (hv:cU (dc env x')=some v):oI P a o w D ι v:=by
 have hr:=dp E hx
 unfold cU at hv
 split at hv
 ·rename_i s hb
  simp at hv;subst hv
  rw[hb]at hr
  have h:=fH hr
  refine⟨_,?_,.eS _ _ (.int _ _)⟩
  simp only[execOp,ho,resolve,Sem.run_bind,Sem.run_pure,Result.andThen_ok,invoke,builtin,Array.map,h]
  simp[Builtin.len_,run_underlying ht,goInt,h]
 ·simp at hv
theorem nz {isS:Bool} {len cap h l:Nat} {lo hi:Option Operand} {NN rq:Option O} (E:cC P w D ι env a) (ke:rM P lo=some NN) (C6:rM P hi=some rq) (hh:dM len (rq.map (dc env))=some h) (hl:dO h (NN.map (dc env))=some l) (hc:len<=cap):
  (Instr.sliceBounds isS len cap (lo.map a.eval) (hi.map a.eval) none).run P w=.ok (l,h,cap) w/\l<=h/\h<=len:=by
 have bound:∀(x:Operand) (y:O) (k:IntKind) (n:Int) (m:Nat) (c:BoundsCode),cO P x=some y->dc env y=.int k n->0<=n->n<=m->(Instr.sliceBound (a.eval x) m c).run P w=.ok n.toNat w:=fun x y k n m c hx hy h0 h1=>by
  have hr:=dp E hx
  rw[hy]at hr
  simp only[Instr.sliceBound,dt hr,asIntOf,Sem.run_bind,Sem.run_pure,Result.andThen_ok,h0,h1,and_self,if_true]
 have H:h<=len/\((hi=none/\h=len)∨∃x,hi=some x/\∀c,(Instr.sliceBound (a.eval x) cap c).run P w=.ok h w):=by
  cases hi with
  |none=>
   simp[rM]at C6;subst C6
   simp[dM]at hh;subst hh
   exact⟨Nat.le_refl _,.inl ⟨rfl,rfl⟩⟩
  |some x=>
   simp only[rM,Option.map_eq_some_iff]at C6
   obtain⟨y,hy,rfl⟩:=C6
   simp only[Option.map_some,dM]at hh
   split at hh
   ·rename_i e;cases e
   ·rename_i k n e
    injection e with e
    split at hh
    ·rename_i hn
     simp at hh;subst hh
     exact⟨by omega,.inr ⟨x,rfl,fun c=>bound x y k n _ _ hy e hn.1 (by omega)⟩⟩
    ·simp at hh
   ·simp at hh
 have L:l<=h/\((lo=none/\l=0)∨∃x,lo=some x/\∀c,(Instr.sliceBound (a.eval x) h c).run P w=.ok l w):=by
  cases lo with
  |none=>
   simp[rM]at ke;subst ke
   simp[dO]at hl;subst hl
   exact⟨Nat.zero_le _,.inl ⟨rfl,rfl⟩⟩
  |some x=>
   simp only[rM,Option.map_eq_some_iff]at ke
   obtain⟨y,hy,rfl⟩:=ke
   simp only[Option.map_some,dO]at hl
   split at hl
   ·rename_i e;cases e
   ·rename_i k n e
    injection e with e
    split at hl
    ·rename_i hn
     simp at hl;subst hl
     exact⟨by omega,.inr ⟨x,rfl,fun c=>bound x y k n h _ hy e hn.1 hn.2⟩⟩
    ·simp at hl
   ·simp at hl
 refine⟨?_,L.1,H.1⟩
 unfold Instr.sliceBounds
 rcases H.2 with⟨rfl,rfl⟩|⟨x,rfl,hx⟩<;>rcases L.2 with⟨rfl,rfl⟩|⟨y,rfl,hy⟩<;>
  simp only[Option.map_none,Option.map_some,Sem.run_bind,Sem.run_pure,Result.andThen_ok, *]
theorem Ni {x:Operand} {x':O} {lo hi:Option Operand} {NN rq:Option O} {t e:TypeId} {m:Nat} (S:gy P hs D ι g w) (E:cC P w D ι env a) (ho:o.op=.slice t x lo hi none) (ht:P.underlying t=some (.slice e)) (hm:ep P e=some m) (hx:cO P x=some x') (ke:rM P lo=some NN) (C6:rM P hi=some rq)
  (hv:bP g m (dc env x') (NN.map (dc env)) (rq.map (dc env))=some v):oI P a o w D ι v:=by
 have hr:=dp E hx
 have go:∀A len cap l h,a.eval x=.slice A len cap->(Instr.sliceBounds true len cap (lo.map a.eval) (hi.map a.eval) none).run P w=.ok (l,h,cap) w->(execOp a.eval o).run P w=.ok (.value (.slice (if cap=l then A else A.map (·.add (l*m))) (h-l) (cap-l))) w:=fun A len cap l h h1 h2=>by
  simp only[execOp,ho,h1,Instr.sliceAt,Instr.slice,Sem.run_bind,Sem.run_pure,run_underlying ht,Result.andThen_ok,Option.map_none,h2,run_sizeOf hm]
 unfold bP at hv
 split at hv
 ·rename_i hb
  rw[hb]at hr
  simp only[Option.bind_eq_some_iff,Option.map_eq_some_iff]at hv
  obtain⟨h,hh,l,hl,rfl⟩:=hv
  obtain⟨q,q1,q2⟩:=nz (w:=w) (isS:=true) (cap:=0) E ke C6 hh hl (Nat.le_refl _)
  have h0:h=0:=by omega
  have l0:l=0:=by omega
  subst h0;subst l0
  refine⟨_,go _ _ _ _ _ (iR hr) q,?_⟩
  simp;exact .eS _ _ .cu
 ·rename_i rows hb
  rw[hb]at hr
  simp only[Option.bind_eq_some_iff,Option.map_eq_some_iff]at hv
  obtain⟨h,hh,l,hl,hv⟩:=hv
  split at hv
  ·rename_i dE
   simp at hv;subst hv
   obtain⟨A,c,he,c1,c2,h3⟩:=w6 hr
   obtain⟨q,q1,q2⟩:=nz (w:=w) (isS:=true) (cap:=c) E ke C6 hh hl c1
   refine⟨_,go _ _ _ _ _ he q,.eS _ _ ?_⟩
   have hlen:((rows.drop l).take (h-l)).length=h-l:=by simp;omega
   by_cases hz:h-l=0
   ·have:(rows.drop l).take (h-l)=[]:=by rw[hz];simp
    rw[this,hz]
    exact .A6 _ _ (by omega)
   ·rcases h3 with h3|⟨b,oo,sz,vs,rfl,hD,K8,fl,hc,hi⟩
    ·subst h3;simp at q2;omega
    rw[if_neg (by omega)]
    simp only[Option.map_some,ko]
    have BW:sz=m:=by
     have dV:l<rows.length:=by omega
     have:=dE rows[l] (List.getElem_mem dV)
     rw[<-this,K8 _ (List.getElem_mem dV)]
    subst BW
    refine .sl _ b _ _ _ sz (fun i j=>vs (l+i) j) hlen (by omega) (by omega) hD (fun cs dw=>K8 cs (List.mem_of_mem_drop (List.mem_of_mem_take dw))) (fun cs dw=>fl cs (List.mem_of_mem_drop (List.mem_of_mem_take dw))) (fun i j hi hj=>?_) (fun i j cs a dw ha=>?_)
    ·rw[<-hc (l+i) j (by omega) hj,Nat.add_mul]
     congr 2;omega
    ·rw[List.getElem?_take]at dw
     split at dw
     ·exact hi _ _ _ _ (by simpa using dw) ha
     ·simp at dw
  ·simp at hv
 ·rename_i k6 off len hb
  rw[hb]at hr
  simp only[Option.bind_eq_some_iff,Option.map_eq_some_iff]at hv
  obtain⟨r,Ib,h,hh,l,hl,hv⟩:=hv
  split at hv
  ·rename_i yI
   simp at hv;subst hv
   obtain⟨oo,cap,B,he,hB,h1,h2,h3,h4,hk⟩:=iT hr
   obtain⟨B',dH,R,_,_⟩:=S.row _ _ Ib
   rw[hB]at dH;injection dH with dH;subst dH
   replace R:=R.row hk
   have fh:B.sz=m:=R.sz.trans yI
   obtain⟨q,q1,q2⟩:=nz (w:=w) (isS:=true) (cap:=cap) E ke C6 hh hl h1
   refine⟨_,go _ _ _ _ _ he q,?_⟩
   have e1:(off+l+(cap-l))*B.sz<=B.C:=by rw[show off+l+(cap-l)=off+cap by omega];exact h3
   by_cases og:cap=l
   ·rw[if_pos og]
    exact .own _ _ _ _ _ B hB hk (by omega) (.inl (by omega)) e1 (by omega)
   ·rw[if_neg og]
    simp only[Option.map_some,ko]
    have C3:oo=off*B.sz:=by rcases h2 with h2|h2<;>omega
    exact .own _ _ _ _ _ B hB hk (by omega) (.inr (by rw[C3,fh,Nat.add_mul])) e1 (by omega)
  ·simp at hv
 ·simp at hv
theorem KX {x:Operand} {x':O} {lo hi:Option Operand} {NN rq:Option O} {t:TypeId} (E:cC P w D ι env a) (ho:o.op=.slice t x lo hi none) (ht:P.underlying t=some .string) (hx:cO P x=some x') (ke:rM P lo=some NN) (C6:rM P hi=some rq)
  (hv:aX (dc env x') (NN.map (dc env)) (rq.map (dc env))=some v):oI P a o w D ι v:=by
 have hr:=dp E hx
 unfold aX at hv
 split at hv
 ·rename_i s hb
  rw[hb]at hr
  simp only[Option.bind_eq_some_iff,Option.map_eq_some_iff]at hv
  obtain⟨h,hh,l,hl,rfl⟩:=hv
  obtain⟨q,_,_⟩:=nz (w:=w) (isS:=false) E ke C6 hh hl (Nat.le_refl _)
  refine⟨_,?_,.eS _ _ (.str _)⟩
  simp only[execOp,ho,fH hr,Instr.sliceAt,Instr.slice,Sem.run_bind,Sem.run_pure,run_underlying ht,Result.andThen_ok,Option.map_none,Option.isSome_none,Bool.false_eq_true,if_false,q]
 ·simp at hv
theorem EF {xs:List Operand} {ys:List O} (E:cC P w D ι env a) (h:xs.mapM (cO P)=some ys):(xs.map a.eval).length=ys.length/\∀j y,ys[j]? =some y->dh P w D ι (dc env y) ((xs.map a.eval).getD j undef):=by
 induction xs generalizing ys with
 |nil=>simp at h;subst h;simp
 |cons x r ih=>
  simp only[List.mapM_cons,Option.bind_eq_bind,Option.bind_eq_some_iff]at h
  obtain⟨c,hc,ql,dw,h⟩:=h
  simp at h;subst h
  obtain⟨h1,h2⟩:=ih dw
  refine⟨by simpa using h1,fun j d hd=>?_⟩
  cases j with
  |zero=>simp at hd ⊢;subst hd;exact dp E hc
  |succ j=>simp at hd ⊢;simpa using h2 j d hd
theorem Qd {f:Nat} {first db:Array Operand} {Br:List O} (E:cC P w D ι env a) (ho:o.op=.makeFunc (.func f) first db) (hf:first= #[]) (hc:fQ P f=true) (hx:db.toList.mapM (cO P)=some Br):oI P a o w D ι (.fn f (Br.map (dc env))):=by
 subst hf
 obtain⟨h1,h2⟩:=EF E hx
 refine⟨.func (.func f) #[] (db.map a.eval),by simp only[execOp,ho,Instr.makeFunc,Sem.run_bind,Sem.run_pure,Result.andThen_ok];simp,.fn _ _ _ (fun j=>(db.toList.map a.eval).getD j undef) hc (by simpa using h1) (fun j hj=>?_) (fun j x QN=>?_)⟩
 ·simp at hj h1
  have:j<db.size:=by omega
  simp[this]
 ·simp only[List.getElem?_map,Option.map_eq_some_iff]at QN
  obtain⟨y,hy,rfl⟩:=QN
  exact h2 j y hy
theorem Qe {f:Nat} {first db:Array Operand} {Br:List O} (E:cC P w D ι env a) (ho:o.op=.makeFunc (.func f) first db) (hf:db= #[]) (hc:fQ P f=true) (hx:first.toList.mapM (cO P)=some Br):oI P a o w D ι (.ud f (Br.map (dc env))):=by
 subst hf
 obtain⟨h1,h2⟩:=EF E hx
 refine⟨.func (.func f) (first.map a.eval) #[],by simp only[execOp,ho,Instr.makeFunc,Sem.run_bind,Sem.run_pure,Result.andThen_ok];simp,.ud _ _ _ (fun j=>(first.toList.map a.eval).getD j undef) hc (by simpa using h1) (fun j hj=>?_) (fun j x QN=>?_)⟩
 ·simp at hj h1
  have:j<first.size:=by omega
  simp[this]
 ·simp only[List.getElem?_map,Option.map_eq_some_iff]at QN
  obtain⟨y,hy,rfl⟩:=QN
  exact h2 j y hy
end
end Go.Proofs.YtgoljkjaameagaaGreat.V

namespace Go.Proofs.YtgoljkjaameagaaGreat.V
open Go.RowKit
variable {P:Program} {w w':World} {D D':Nat->Prop} {ι ι':Names}
def Mk (P:Program) (a:Act) (o:Oper) (w:World) (D:Nat->Prop) (ι:Names) (id:Id) (v:AV) (r:Row):Prop:=
 ∃u cells T,(execOp a.eval o).run P w=.ok (.value u) (w.alloc (.cells cells T))/\r.w=true/\r.rows.length*r.sz<=cells.size/\(∀cs∈r.rows,cs.length=r.sz)/\(∀cs∈r.rows,∀a∈cs,a.cell=true)/\
  (∀i j cs a,r.rows[i]? =some cs->cs[j]? =some a->∃x,cells[i*r.sz+j]? =some x/\dh P w D ι a x)/\∀ι':Names,ι' id=some ⟨w.heap.size,r.sz,cells.size,none⟩->dh P w D ι' v u
section
variable {g:Rows} {hs:Nat} {env:Env} {a:Act} {o:Oper} {id:Id} {v:AV}
theorem kL {vs:List Value} {cs:List K} (h:vs.mapM Hc=some cs):fo P w D ι (cs.map K.av) vs.toArray:=by
 obtain⟨h1,h2⟩:=se h
 refine⟨by simp[h1],fun j a ha=>?_⟩
 simp only[List.getElem?_map,Option.map_eq_some_iff]at ha
 obtain⟨c,hc,rfl⟩:=ha
 exact⟨c.val,by simpa using h2 j c hc,wZ c⟩
theorem jZ {t:TypeId} {z:List K} (h:jL P t=some z):∃i v,P.info? t=some i/\i.zero=some v/\v.cells.size=i.size/\v.cells.toList.mapM Hc=some z/\z.length=i.size:=by
 unfold jL at h
 split at h
 ·rename_i i hi
  split at h
  ·rename_i v hv
   split at h
   ·rename_i hs
    exact⟨i,v,hi,hv,hs,h,by rw[(se h).1];simpa using hs⟩
   ·simp at h
  ·simp at h
 ·simp at h
theorem F4 {cs:List AV} {cells:Array Value} (h:fo P w D ι cs cells):∀i j c a,[cs][i]? =some c->c[j]? =some a->∃x,cells[i*cs.length+j]? =some x/\dh P w D ι a x:=by
 intro i j c a hi hj
 cases i with
 |zero=>simp at hi;subst hi;simpa using h.2 j a hj
 |succ i=>simp at hi
theorem Su {t:TypeId} {z:List K} (ho:o.op=.alloc t) (hz:jL P t=some z):Mk P a o w D ι id (.ptr id 0 0) ⟨true,z.length,[z.map K.av]⟩:=by
 obtain⟨i,v,hi,hv,hs,hm,hl⟩:=jZ hz
 have hk:=kL (P:=P) (w:=w) (D:=D) (ι:=ι) hm
 refine⟨.pointer (some ⟨w.heap.size,0,none⟩),v.cells,t,?_,rfl,?_,?_,?_,?_,?_⟩
 ·simp only[execOp,ho,Instr.alloc,zeroValue,typeInfo,Sem.run_bind]
  simp[hi,hv,newVar,newRow]
 ·simp[hl,hs]
 ·intro cs dw;simp at dw;subst dw;simp
 ·intro cs dw x hx;simp at dw;subst dw
  obtain⟨c,_,rfl⟩:=List.mem_map.1 hx;exact c.mZ
 ·have:=F4 hk;simpa using this
 ·intro ι' hι
  have:=dh.ptr (P:=P) (w:=w) (D:=D) (ι:=ι') id 0 0 _ hι rfl
  simpa using this
theorem rj {x:AV} {u:Value} (h:dh P w D ι x u) (hc:x.cells.all AV.cell=true):fo P w D ι x.cells u.cells:=by
 obtain⟨h1,f,h2,h3⟩:=h.cells hc
 exact⟨h1,fun j a ha=>⟨f j,h2 j (List.getElem?_eq_some_iff.1 ha).1,h3 j a ha⟩⟩
theorem Sr {t:TypeId} {x:Operand} {x':O} {cs:List AV} (E:cC P w D ι env a) (ho:o.op=.box t x) (hx:cO P x=some x') (hb:cJ (dc env x')=some cs):Mk P a o w D ι id (.ptr id 0 0) ⟨true,cs.length,[cs]⟩:=by
 have hr:=dp E hx
 unfold cJ at hb
 split at hb
 ·rename_i dE
  simp at hb;subst hb
  have hk:=rj hr dE
  refine⟨.pointer (some ⟨w.heap.size,0,none⟩),(a.eval x).cells,t,?_,rfl,?_,?_,?_,?_,?_⟩
  ·simp only[execOp,ho,Instr.box,Sem.run_bind]
   simp[newVar,newRow]
  ·simp[hk.1]
  ·intro cs dw;simp at dw;subst dw;rfl
  ·intro cs dw y hy;simp at dw;subst dw
   exact List.all_eq_true.1 dE y hy
  ·exact F4 hk
  ·intro ι' hι
   have:=dh.ptr (P:=P) (w:=w) (D:=D) (ι:=ι') id 0 0 _ hι rfl
   simpa using this
 ·simp at hb
theorem foldl_set:∀(vs:List Value) (n off:Nat) (cells:Array Value),off+n+vs.length<=cells.size->((vs.zipIdx n).foldl (fun cs (x:Value×Nat)=>cs.setIfInBounds (off+x.2) x.1) cells).size=cells.size/\
  ∀k,((vs.zipIdx n).foldl (fun cs (x:Value×Nat)=>cs.setIfInBounds (off+x.2) x.1) cells)[k]? =if off+n<=k/\k<off+n+vs.length then vs[k-(off+n)]? else cells[k]?
 |[],n,off,cells,_=>⟨rfl,fun k=>by simp;intro h1 h2;omega⟩
 |v::r,n,off,cells,h=>by
  simp only[List.length_cons]at h
  obtain⟨h1,h2⟩:=foldl_set r (n+1) off (cells.setIfInBounds (off+n) v) (by simp;omega)
  simp only[List.zipIdx_cons,List.foldl_cons]
  refine⟨by rw[h1];simp,fun k=>?_⟩
  rw[h2 k]
  simp only[List.length_cons]
  by_cases hk:k=off+n
  ·subst hk
   rw[if_neg (by omega),if_pos (by omega)]
   simp[show off+n<cells.size by omega]
  ·by_cases tg:off+n<=k/\k<off+n+(r.length+1)
   ·rw[if_pos (by omega),if_pos tg]
    have:k-(off+n)=(k-(off+(n+1)))+1:=by omega
    rw[this,List.getElem?_cons_succ]
   ·rw[if_neg (by omega),if_neg tg,Array.getElem?_setIfInBounds_ne (by omega)]
theorem vU (place:Nat->Option (Nat×Nat)):∀(ps:List (Nat×Value)) (qs:List (Nat×Nat×AV)) (cells:Array Value) (cs res:List AV),fo P w D ι cs cells->(∀a∈cs,a.cell=true)->ps.length=qs.length->
  (∀(k:Nat) i u o' n x,ps[k]? =some (i,u)->qs[k]? =some (o',n,x)->place i=some (o',n)/\dh P w D ι x u)->cG cs qs=some res->∃jn,Instr.fill place cells ps=some jn/\fo P w D ι res jn/\(∀a∈res,a.cell=true)/\res.length=cs.length:=by
 intro ps
 induction ps with
 |nil=>
  intro qs cells cs res hR hf hl _ hv
  cases qs with
  |nil=>simp[cG]at hv;subst hv;exact⟨cells,rfl,hR,hf,rfl⟩
  |cons q r=>simp at hl
 |cons p ps ih=>
  intro qs cells cs res hR hf hl hp hv
  cases qs with
  |nil=>simp at hl
  |cons q qs=>
   obtain⟨i,u⟩:=p
   obtain⟨oo,n,x⟩:=q
   obtain⟨mQ,hr⟩:=hp 0 i u oo n x rfl rfl
   unfold cG at hv
   split at hv
   ·rename_i hc
    obtain⟨c1,c2,c3⟩:=hc
    have hk:=rj hr c3
    have TG:u.cells.size=n:=by rw[hk.1,c1]
    have dw:cells.size=cs.length:=hR.1
    unfold Instr.fill
    simp only[mQ]
    rw[if_neg (by rw[TG,dw];simp;omega)]
    obtain⟨s1,s2⟩:=foldl_set u.cells.toList 0 oo cells (by simp;omega)
    have e0:(u.cells.zipIdx.foldl (fun cs (x:Value×Nat)=>cs.setIfInBounds (oo+x.2) x.1) cells)=(u.cells.toList.zipIdx 0).foldl (fun cs (x:Value×Nat)=>cs.setIfInBounds (oo+x.2) x.1) cells:=by
     rw[<-Array.foldl_toList];simp
    have uA:=ih qs (u.cells.zipIdx.foldl (fun cs (x:Value×Nat)=>cs.setIfInBounds (oo+x.2) x.1) cells) (cs.take oo++x.cells++cs.drop (oo+n)) res ?_ ?_ (by simpa using hl) (fun k i u o' n x h1 h2=>hp (k+1) i u o' n x (by simpa using h1) (by simpa using h2)) hv
    ·obtain⟨jn,h1,h2,h3,h4⟩:=uA
     refine⟨jn,h1,h2,h3,?_⟩
     rw[h4];simp;omega
    ·rw[e0]
     refine⟨by rw[s1,dw];simp;omega,fun j a ha=>?_⟩
     rw[s2 j]
     simp only[Nat.add_zero,Array.length_toList]
     by_cases hj:oo<=j/\j<oo+u.cells.size
     ·rw[if_pos hj]
      rw[List.append_assoc,List.getElem?_append_right (by simp;omega),List.getElem?_append_left (by simp;omega)]at ha
      simp only[List.length_take]at ha
      rw[show min oo cs.length=oo by omega]at ha
      simpa using hk.2 _ _ ha
     ·rw[if_neg hj]
      by_cases O0:j<oo
      ·rw[List.append_assoc,List.getElem?_append_left (by simp;omega),List.getElem?_take,if_pos O0]at ha
       exact hR.2 _ _ ha
      ·rw[List.getElem?_append_right (by simp;omega)]at ha
       simp only[List.length_append,List.length_take,List.getElem?_drop]at ha
       rw[show oo+n+(j-(min oo cs.length+x.cells.length))=j by omega]at ha
       exact hR.2 _ _ ha
    ·intro b hb
     rcases List.mem_append.1 hb with hb|hb
     ·rcases List.mem_append.1 hb with hb|hb
      ·exact hf b (List.mem_of_mem_take hb)
      ·exact List.all_eq_true.1 c3 b hb
     ·exact hf b (List.mem_of_mem_drop hb)
   ·simp at hv
theorem xJ {fs:List Field} (h:∀f∈fs,(P.info? f.type).isSome=true):∃Am,fs.mapM (fun f=>(P.info? f.type).map fun i=>(f.offset,i.size))=some Am/\∀(i:Nat) (f:Field) (n:Nat),fs[i]? =some f->ep P f.type=some n->Am[i]? =some (f.offset,n):=by
 induction fs with
 |nil=>exact⟨[],rfl,fun i f n h=>by simp at h⟩
 |cons f r ih=>
  obtain⟨q,h1,h2⟩:=ih (fun x hx=>h x (List.mem_cons_of_mem _ hx))
  obtain⟨i,hi⟩:=Option.isSome_iff_exists.1 (h f (by simp))
  refine⟨(f.offset,i.size)::q,by simp[hi,h1],fun k x n hk hn=>?_⟩
  cases k with
  |zero=>simp at hk;subst hk;simp[ep,hi]at hn;subst hn;rfl
  |succ k=>simp at hk ⊢;exact h2 k x n hk hn
theorem qz {ps:List (Nat×Operand)} {l:List (Nat×O)} (E:cC P w D ι env a) (h:ps.mapM (fun(x:Nat×Operand)=>(cO P x.2).map (x.1,·))=some l):l.length=ps.length/\∀(k i:Nat) (y:O),l[k]? =some (i,y)->∃x,ps[k]? =some (i,x)/\cO P x=some y:=by
 induction ps generalizing l with
 |nil=>simp at h;subst h;simp
 |cons p r ih=>
  simp only[List.mapM_cons,Option.bind_eq_bind,Option.bind_eq_some_iff]at h
  obtain⟨c,hc,ql,dw,h⟩:=h
  simp at h;subst h
  obtain⟨h1,h2⟩:=ih dw
  simp only[Option.map_eq_some_iff]at hc
  obtain⟨y,hy,rfl⟩:=hc
  refine⟨by simp[h1],fun k i z hk=>?_⟩
  cases k with
  |zero=>simp at hk;obtain⟨rfl,rfl⟩:=hk;exact⟨p.2,rfl,hy⟩
  |succ k=>simp at hk ⊢;exact h2 k i z hk
theorem Dr {fs:Array Field} {l:List (Nat×O)} {q:List (Nat×Nat×O)} (h:s5 P fs l=some q):q.length=l.length/\∀(k oo n:Nat) (y:O),q[k]? =some (oo,n,y)->∃(i:Nat) (f:Field),l[k]? =some (i,y)/\fs[i]? =some f/\f.offset=oo/\ep P f.type=some n:=by
 induction l generalizing q with
 |nil=>simp[s5]at h;subst h;simp
 |cons p r ih=>
  obtain⟨i,x⟩:=p
  unfold s5 at h
  split at h
  ·rename_i f hf
   split at h
   ·rename_i n hn
    simp only[Option.map_eq_some_iff]at h
    obtain⟨q',Ie,rfl⟩:=h
    obtain⟨h1,h2⟩:=ih Ie
    refine⟨by simp[h1],fun k oo m y hk=>?_⟩
    cases k with
    |zero=>simp at hk;obtain⟨rfl,rfl,rfl⟩:=hk;exact⟨i,f,rfl,hf,rfl,hn⟩
    |succ k=>simp only[List.getElem?_cons_succ]at hk ⊢;exact h2 k oo m y hk
   ·simp at h
  ·simp at h
theorem fo.agg {xs:List AV} {vs:Array Value} (h:fo P w D ι xs vs) (hf:∀a∈xs,a.cell=true):dh P w D ι (.agg xs) (.agg vs):=
 .agg xs vs (fun j=>vs.getD j undef) h.1 hf (fun j hj=>by
  have:j<vs.size:=by rw[h.1];exact hj
  simp[this]) (fun j a ha=>by
  obtain⟨u,h1,h2⟩:=h.2 j a ha
  simpa[Array.getD_eq_getD_getElem?,h1]using h2)
theorem Nd {t:TypeId} {ps:Array (Nat×Operand)} {fs:Array Field} {z:List K} {l:List (Nat×O)} {q:List (Nat×Nat×O)} {cs:List AV} (E:cC P w D ι env a) (ho:o.op=.build t ps) (ht:P.underlying t=some (.struct fs)) (hz:jL P t=some z) (hl:s8 P ps=some l)
  (rV:∀f∈fs.toList,(P.info? f.type).isSome=true) (hq:s5 P fs l=some q) (hv:cG (z.map K.av) (q.map fun(o,n,x)=>(o,n,dc env x))=some cs):oI P a o w D ι (.agg cs):=by
 obtain⟨it,zv,hi,qm,hs,hm,FP⟩:=jZ hz
 obtain⟨Am,mQ,Vs⟩:=xJ rV
 have hk:=kL (P:=P) (w:=w) (D:=D) (ι:=ι) hm
 obtain⟨n1,r1⟩:=qz E hl
 obtain⟨n2,r2⟩:=Dr hq
 obtain⟨jn,h1,h2,h3,_⟩:=vU (P:=P) (w:=w) (D:=D) (ι:=ι) (Am.toArray[·]?) (ps.toList.map fun(i,x)=>(i,a.eval x)) (q.map fun(o,n,x)=>(o,n,dc env x)) zv.cells _ cs (by simpa using hk)
  (fun b hb=>by obtain⟨c,_,rfl⟩:=List.mem_map.1 hb;exact c.mZ) (by simp[n2,n1]) (fun k i u o' n x qb tg=>by
   simp only[List.getElem?_map,Option.map_eq_some_iff]at qb tg
   obtain⟨⟨i',x'⟩,hp,e1⟩:=qb
   obtain⟨⟨o2,n',y⟩,Ie,e2⟩:=tg
   simp only[Prod.mk.injEq]at e1 e2
   obtain⟨rfl,rfl⟩:=e1
   obtain⟨rfl,rfl,rfl⟩:=e2
   obtain⟨i2,f,Jw,hf,rfl,hn⟩:=r2 _ _ _ _ Ie
   obtain⟨x2,AZ,hc⟩:=r1 _ _ _ Jw
   rw[hp]at AZ
   simp only[Option.some.injEq,Prod.mk.injEq]at AZ
   obtain⟨rfl,rfl⟩:=AZ
   exact⟨by simpa using Vs _ _ _ (by simpa using hf) hn,dp E hc⟩) hv
 refine⟨.agg jn,?_,h2.agg h3⟩
 have hb:P.built t ((ps.map fun(i,x)=>(i,a.eval x)).toList)=some jn:=by
  unfold Program.built
  simp only[hi,ht,qm,mQ]
  simpa using h1
 simp only[execOp,ho,Sem.run_bind,run_build w t _ _ hb,Result.andThen_ok,Sem.run_pure]
theorem KW {t e:TypeId} {len n:Nat} {ps:Array (Nat×Operand)} {z:List K} {l:List (Nat×O)} {cs:List AV} (E:cC P w D ι env a) (ho:o.op=.build t ps) (ht:P.underlying t=some (.array len e)) (hz:jL P t=some z) (hl:s8 P ps=some l) (hn:ep P e=some n)
  (hv:cG (z.map K.av) ((l.map fun(x:Nat×O)=>(x.1*n,n,x.2)).map fun(o,n,x)=>(o,n,dc env x))=some cs):oI P a o w D ι (.agg cs):=by
 obtain⟨it,zv,hi,qm,hs,hm,FP⟩:=jZ hz
 have hk:=kL (P:=P) (w:=w) (D:=D) (ι:=ι) hm
 obtain⟨n1,r1⟩:=qz E hl
 obtain⟨ie,G1,fh⟩:∃ie,P.info? e=some ie/\ie.size=n:=by simpa[ep]using hn
 obtain⟨jn,h1,h2,h3,_⟩:=vU (P:=P) (w:=w) (D:=D) (ι:=ι) (fun i=>some (i*ie.size,ie.size)) (ps.toList.map fun(i,x)=>(i,a.eval x)) ((l.map fun(x:Nat×O)=>(x.1*n,n,x.2)).map fun(o,n,x)=>(o,n,dc env x)) zv.cells _ cs (by simpa using hk)
  (fun b hb=>by obtain⟨c,_,rfl⟩:=List.mem_map.1 hb;exact c.mZ) (by simp[n1]) (fun k i u o' n' x qb tg=>by
   simp only[List.getElem?_map,Option.map_eq_some_iff]at qb tg
   obtain⟨⟨i',x'⟩,hp,e1⟩:=qb
   obtain⟨⟨o2,n2,y⟩,⟨⟨i2,y2⟩,Jw,e3⟩,e2⟩:=tg
   simp only[Prod.mk.injEq]at e1 e2 e3
   obtain⟨rfl,rfl⟩:=e1
   obtain⟨rfl,rfl,rfl⟩:=e2
   obtain⟨rfl,rfl,rfl⟩:=e3
   obtain⟨x2,AZ,hc⟩:=r1 _ _ _ Jw
   rw[hp]at AZ
   simp only[Option.some.injEq,Prod.mk.injEq]at AZ
   obtain⟨rfl,rfl⟩:=AZ
   exact⟨by rw[fh],dp E hc⟩) hv
 refine⟨.agg jn,?_,h2.agg h3⟩
 have hb:P.built t ((ps.map fun(i,x)=>(i,a.eval x)).toList)=some jn:=by
  unfold Program.built
  simp only[hi,ht,qm,G1]
  simpa using h1
 simp only[execOp,ho,Sem.run_bind,run_build w t _ _ hb,Result.andThen_ok,Sem.run_pure]
theorem vT:∀(vs:List AV) (sz i:Nat) (rs:List (List AV)) (cs:List AV),0<sz->cs.length=(i+vs.length)*sz->rowsOf sz vs=some rs->
  cG cs ((vs.zipIdx i).map fun(v,j)=>(j*sz,sz,v))=some (cs.take (i*sz)++rs.flatten)/\rs.length=vs.length/\(∀c∈rs,c.length=sz)/\∀c∈rs,∀x∈c,x.cell=true
 |[],sz,i,rs,cs,_,hl,h=>by
  simp[rowsOf]at h;subst h
  simp at hl
  simp[cG,List.take_of_length_le (show cs.length<=i*sz by omega)]
 |v::r,sz,i,rs,cs,fh,hl,h=>by
  simp only[rowsOf,Option.bind_eq_some_iff,Option.map_eq_some_iff]at h
  obtain⟨c,hc,rs',yI,rfl⟩:=h
  unfold rowOf at hc
  split at hc
  ·rename_i zL
   simp at hc;subst hc
   obtain⟨p9,DT⟩:=zL
   simp only[List.length_cons]at hl
   have hmul:(i+(r.length+1))*sz=i*sz+sz+r.length*sz:=by rw[Nat.add_mul,Nat.add_mul];omega
   have ih:=vT r sz (i+1) rs' (cs.take (i*sz)++v.cells++cs.drop (i*sz+sz)) fh (by
    simp[p9];rw[Nat.add_mul,Nat.add_mul];omega) yI
   refine⟨?_,by simp[ih.2.1],?_,?_⟩
   ·simp only[List.zipIdx_cons,List.map_cons,cG]
    rw[if_pos ⟨p9,by omega,DT⟩,ih.1]
    congr 1
    rw[List.flatten_cons,<-List.append_assoc]
    congr 1
    rw[Nat.add_mul,Nat.one_mul,List.take_append_of_le_length (by simp[p9];omega)]
    rw[List.take_of_length_le (by simp[p9];omega)]
   ·intro c' kz;rcases List.mem_cons.1 kz with rfl|kz
    ·exact p9
    ·exact ih.2.2.1 c' kz
   ·intro c' kz;rcases List.mem_cons.1 kz with rfl|kz
    ·exact List.all_eq_true.1 DT
    ·exact ih.2.2.2 c' kz
  ·simp at hc
theorem flat_get {α:Type} {oN:List (List α)} {sz:Nat} (h:∀cs∈oN,cs.length=sz) {i j:Nat} {cs:List α} {a:α} (hi:oN[i]? =some cs) (hj:cs[j]? =some a):oN.flatten[i*sz+j]? =some a:=by
 induction oN generalizing i with
 |nil=>simp at hi
 |cons c r ih=>
  have hc:c.length=sz:=h c (by simp)
  cases i with
  |zero=>
   simp at hi;subst hi
   have dV:=(List.getElem?_eq_some_iff.1 hj).1
   rw[List.flatten_cons,List.getElem?_append_left (by omega)];simpa using hj
  |succ i=>
   rw[List.flatten_cons,List.getElem?_append_right (by rw[hc,Nat.succ_mul];omega)]
   have:(i+1)*sz+j-c.length=i*sz+j:=by rw[hc,Nat.succ_mul];omega
   rw[this]
   exact ih (fun cs dw=>h cs (List.mem_cons_of_mem _ dw)) (by simpa using hi)
theorem Jb {α:Type} {oN:List (List α)} {sz:Nat} (h:∀cs∈oN,cs.length=sz):oN.flatten.length=oN.length*sz:=by
 induction oN with
 |nil=>simp
 |cons c r ih=>
  rw[List.flatten_cons,List.length_append,h c (by simp),ih (fun cs dw=>h cs (List.mem_cons_of_mem _ dw)),List.length_cons,Nat.succ_mul];omega
theorem pr {zv:Value} {z:List K} {n:Nat} (hm:zv.cells.toList.mapM Hc=some z) (lJ:0<z.length):∀k,k<n->∃c,z[k % z.length]? =some c/\((Array.range n).map (zv.cells[· % zv.cells.size]!))[k]? =some c.val:=by
 intro k hk
 obtain⟨h1,h2⟩:=se hm
 have fh:zv.cells.size=z.length:=by simpa using h1.symm
 have dV:k % z.length<z.length:=Nat.mod_lt _ lJ
 refine⟨z[k % z.length],List.getElem?_eq_getElem dV,?_⟩
 have h3:=h2 _ _ (List.getElem?_eq_getElem dV)
 simp only[Array.getElem?_toList]at h3
 have BV:k % z.length<zv.cells.size:=by rw[fh];exact dV
 rw[Array.getElem?_map,Array.getElem?_range,if_pos hk]
 simp only[Option.map_some]
 rw[fh,getElem!_pos zv.cells (k % z.length) BV]
 rw[Array.getElem?_eq_getElem BV]at h3
 exact h3
theorem JV {t e:TypeId} {len sz:Nat} {ps:Array (Nat×Operand)} {z:List K} {l:List (Nat×O)} {rs:List (List AV)} (E:cC P w D ι env a) (ho:o.op=.buildSlice t len ps) (ht:P.underlying t=some (.slice e)) (fh:ep P e=some (sz+1)) (hz:jL P e=some z)
  (hl:s8 P ps=some l) (Eb:len*(sz+1)<=4096) (R5:l.map (·.1)=List.range len) (hv:rowsOf (sz+1) (l.map fun x=>dc env x.2)=some rs):Mk P a o w D ι id (.own id 0 len) ⟨true,sz+1,rs⟩:=by
 obtain⟨it,zv,hi,qm,hs,hm,FP⟩:=jZ hz
 have jF:it.size=sz+1:=by simpa[ep,hi]using fh
 obtain⟨n1,r1⟩:=qz E hl
 have G2:l.length=len:=by have:=congrArg List.length R5;simpa using this
 by_cases h0:len=0
 ·subst h0
  have QB:l=[]:=List.length_eq_zero_iff.1 G2
  subst QB
  simp[rowsOf]at hv;subst hv
  have TA:ps= #[]:=by
   apply Array.ext';apply List.eq_nil_of_length_eq_zero;rw[<-n1];rfl
  subst TA
  refine⟨.slice (some ⟨w.heap.size,0,none⟩) 0 0, #[],e,?_,rfl,by simp,by simp,by simp,fun i j cs x hi=>by simp at hi,fun ι' hι=>?_⟩
  ·simp[execOp,ho,Instr.buildSlice,run_underlying ht,sizeOf,typeInfo,hi,Instr.fill,newRow,Array.range_zero']
  ·exact .own _ 0 0 0 0 _ hι rfl (Nat.le_refl _) (.inl rfl) (by simp) (by simp[maxLen])
 ·have xz:fo P w D ι ((List.range (len*(sz+1))).map fun k=>(z.getD (k % z.length) .cu).av) ((Array.range (len*(sz+1))).map (zv.cells[· % zv.cells.size]!)):=by
   refine⟨by simp,fun j x hx=>?_⟩
   simp only[List.getElem?_map,Option.map_eq_some_iff]at hx
   obtain⟨k,hk,rfl⟩:=hx
   have jN:=(List.getElem?_eq_some_iff.1 hk).1
   simp at jN
   rw[List.getElem?_range jN]at hk
   injection hk with hk
   subst hk
   obtain⟨c,hc,RB⟩:=pr hm (by rw[FP,jF];omega) j jN
   exact⟨c.val,RB,by rw[List.getD_eq_getElem?_getD,hc];exact wZ c⟩
  obtain⟨f1,f2,f3,f4⟩:=vT (l.map fun x=>dc env x.2) (sz+1) 0 rs ((List.range (len*(sz+1))).map fun k=>(z.getD (k % z.length) .cu).av) (by omega) (by simp[G2]) hv
  obtain⟨jn,h1,h2,h3,h4⟩:=vU (P:=P) (w:=w) (D:=D) (ι:=ι) (fun i=>some (i*it.size,it.size)) (ps.toList.map fun(i,x)=>(i,a.eval x)) _ _ _ _ xz
   (fun b hb=>by obtain⟨c,_,rfl⟩:=List.mem_map.1 hb;exact K.mZ _) (by simp[n1]) (fun k i u o' n x qb tg=>by
   simp only[List.getElem?_map,Option.map_eq_some_iff]at qb tg
   obtain⟨⟨i',x'⟩,hp,e1⟩:=qb
   obtain⟨⟨v2,j2⟩,Ie,e2⟩:=tg
   simp only[Prod.mk.injEq]at e1 e2
   obtain⟨rfl,rfl⟩:=e1
   obtain⟨rfl,rfl,rfl⟩:=e2
   rw[List.getElem?_zipIdx]at Ie
   simp only[List.getElem?_map,Option.map_map,Option.map_eq_some_iff,Function.comp_apply,Prod.mk.injEq,Nat.zero_add]at Ie
   obtain⟨⟨i2,y⟩,Jw,rfl,rfl⟩:=Ie
   obtain⟨x2,AZ,hc⟩:=r1 _ _ _ Jw
   rw[hp]at AZ
   simp only[Option.some.injEq,Prod.mk.injEq]at AZ
   obtain⟨rfl,rfl⟩:=AZ
   have yC:(l.map (·.1))[k]? =some i':=by rw[List.getElem?_map,Jw];rfl
   have jN:=(List.getElem?_eq_some_iff.1 yC).1
   rw[R5]at yC
   simp at jN
   rw[List.getElem?_range (by omega)]at yC
   injection yC with yC
   subst yC
   exact⟨by rw[jF],dp E hc⟩) f1
  simp only[Nat.zero_mul,List.take_zero,List.nil_append,List.length_map]at h2 h3 h4 f2
  have dw:jn.size=len*(sz+1):=by rw[h2.1,h4];simp
  refine⟨.slice (some ⟨w.heap.size,0,none⟩) len len,jn,e,?_,rfl,?_,f3,f4,fun i j cs x rq hj=>h2.2 _ _ (flat_get f3 rq hj),fun ι' hι=>?_⟩
  ·have gD:=run_buildSlice (P:=P) w t e len (ps.map fun(i,x)=>(i,a.eval x)) jn it zv ht hi qm (by rw[jF];omega) (by rw[jF];exact Nat.mul_ne_zero h0 (by omega)) (by rw[<-jF]at h1;simpa using h1)
   simp only[execOp,ho,Sem.run_bind,gD,Result.andThen_ok,Sem.run_pure]
  ·dsimp only;rw[f2,G2,dw];exact Nat.le_refl _
  ·refine .own _ 0 len 0 len _ hι rfl (Nat.le_refl _) (.inr (by simp)) ?_ (by simp only[maxLen];have:=Nat.le_mul_of_pos_right len (show 0<sz+1 by omega);omega)
   dsimp only;rw[dw];simp
theorem Ho {t e:TypeId} {it:TypeInfo} {m:Nat} {z:List K} {l c:Operand} {l' c':O} {n:Nat} {r:Row} (E:cC P w D ι env a) (ho:o.op=.makeSlice t l c) (ht:P.underlying t=some (.slice e)) (fh:ep P e=some (m+1)) (hz:jL P e=some z) (Qy:P.info? e=some it) (hby:it.bytes<=32768)
  (hl:cO P l=some l') (hc:cO P c=some c') (hv:gU z (dc env l') (dc env c')=some (n,r)):Mk P a o w D ι id (.own id 0 n) r:=by
 obtain⟨it',zv,hi,qm,hs,hm,FP⟩:=jZ hz
 rw[Qy]at hi;injection hi with hi;subst hi
 have jF:it.size=m+1:=by simpa[ep,Qy]using fh
 unfold gU at hv
 split at hv
 ·rename_i k1 ln k2 cn e1 e2
  split at hv
  ·rename_i hb
   obtain⟨b1,b2,b3⟩:=hb
   simp at hv
   obtain⟨rfl,rfl⟩:=hv
   have r1:=dt (e1▸dp E hl)
   have r2:=dt (e2▸dp E hc)
   unfold dD at b3
   have Nx:(it.bytes:Int)*cn<=281474976710656:=by
    have h1:(it.bytes:Int)<=32768:=by omega
    have h2:(it.bytes:Int)*cn<=32768*16777216:=Int.mul_le_mul h1 (by omega) (by omega) (by omega)
    omega
   have gD:=run_make (P:=P) w t e it zv ht Qy qm k1 k2 ln cn b1 b2 Nx (by omega)
   have kE:∀k,k<cn.toNat*it.size->∃x,z[k % z.length]? =some x/\(madeCells zv.cells (cn.toNat*it.size))[k]? =some x.val:=fun k hk=>pr hm (by rw[FP,jF];omega) k hk
   refine⟨.slice (some ⟨w.heap.size,0,none⟩) ln.toNat cn.toNat,madeCells zv.cells (cn.toNat*it.size),e,by simp only[execOp,ho,r1,r2,Sem.run_bind,gD,Result.andThen_ok,Sem.run_pure],rfl,?_,?_,?_,?_,fun ι' hι=>?_⟩
   ·simp only[List.length_replicate,size_madeCells,FP]
    exact Nat.mul_le_mul_right _ (by omega)
   ·intro cs dw
    have:=List.eq_of_mem_replicate dw
    subst this;simp
   ·intro cs dw x hx
    have:=List.eq_of_mem_replicate dw
    subst this
    obtain⟨c,_,rfl⟩:=List.mem_map.1 hx;exact c.mZ
   ·intro i j cs x rq hj
    have nR:=(List.getElem?_eq_some_iff.1 rq).1
    have:=List.eq_of_mem_replicate (List.mem_of_getElem? rq)
    subst this
    simp only[List.length_replicate]at nR
    simp only[List.getElem?_map,Option.map_eq_some_iff]at hj
    obtain⟨q,hq,rfl⟩:=hj
    have gM:=(List.getElem?_eq_some_iff.1 hq).1
    dsimp only
    obtain⟨x,hx,AZ⟩:=kE (i*z.length+j) (by
     rw[<-FP]
     calc i*z.length+j<i*z.length+z.length:=by omega
      _=(i+1)*z.length:=by rw[Nat.add_mul,Nat.one_mul]
      _<=cn.toNat*z.length:=Nat.mul_le_mul_right _ (by omega))
    rw[Nat.mul_comm i,Nat.mul_add_mod,Nat.mod_eq_of_lt gM,hq]at hx
    injection hx with hx;subst hx
    exact⟨_,by rw[Nat.mul_comm i]at AZ ⊢;exact AZ,wZ q⟩
   ·refine .own _ 0 _ 0 _ _ hι rfl (by omega) (.inr (by simp)) ?_ (by simp only[maxLen];omega)
    dsimp only;rw[size_madeCells,FP];simp
  ·simp at hv
 ·simp at hv
end
end Go.Proofs.YtgoljkjaameagaaGreat.V

namespace Go.Proofs.YtgoljkjaameagaaGreat.V
open Go.RowKit
variable {P:Program} {w w':World} {D D':Nat->Prop} {ι ι':Names}
def Fg (P:Program) (k:TypeId) (m:MK):Prop:=
 (∃s,m=⟨false,[s]⟩/\fw P k=some s)∨
 (∃fs ts,m=⟨true,ts⟩/\P.underlying k=some (.struct fs)/\eK P 4 0 fs.toList=some ts/\P.stoodInHeld k=false/\∀f∈fs.toList,(fw P f.type).isSome=true)
theorem rL {t:TypeId} {m:MK} {z:K} (h:s7 P t=some (m,z)):∃k e i zv,P.underlying t=some (.map k e)/\P.info? e=some i/\i.zero=some zv/\Hc zv=some z/\Fg P k m:=by
 unfold s7 at h
 split at h
 ·rename_i k e ht
  split at h
  ·rename_i zv s h1 h2 h3
   simp only[Option.map_eq_some_iff,Prod.mk.injEq]at h
   obtain⟨z',hz,rfl,rfl⟩:=h
   simp only[Option.bind_eq_some_iff]at h2
   obtain⟨i,hi,qm⟩:=h2
   exact⟨k,e,i,zv,ht,hi,qm,hz,.inl ⟨s,rfl,h3⟩⟩
  ·rename_i zv fs h1 h2 h3 h4
   split at h
   ·rename_i ts z' xP hz
    split at h
    ·rename_i hc
     simp only[Option.some.injEq,Prod.mk.injEq]at h
     obtain⟨rfl,rfl⟩:=h
     simp only[Option.bind_eq_some_iff]at h2
     obtain⟨i,hi,qm⟩:=h2
     simp only[Bool.not_eq_true',List.all_eq_true]at hc
     exact⟨k,e,i,zv,ht,hi,qm,hz,.inr ⟨fs,ts,rfl,h4,xP,hc.1,hc.2⟩⟩
    ·cases h
   ·cases h
  ·cases h
 ·cases h
theorem w9 {t:TypeId} {s:TS} (ht:fw P t=some s) (em:Bool) (n:Nat) (v:Value):(Instr.checkKey em (n+1) t v).run P w=.ok () w:=by
 unfold Instr.checkKey
 cases s with
 |tB=>simp[run_underlying (pK ht)]
 |tS=>simp[run_underlying (pN ht)]
 |tI=>
  obtain⟨q,hq⟩:=pM ht
  simp[run_underlying hq]
theorem xb (em:Bool) (n:Nat) (vs:Array Value):∀(d:Nat) (fs:List Field) (off:Nat) (ts:List TS),eK P (d+1) off fs=some ts->(∀f∈fs,(fw P f.type).isSome=true)->off+ts.length<=vs.size->
  Sem.run P (forIn fs PUnit.unit fun f (_:PUnit)=>if f.name≠ "_" then do
    let x <-Go.part f.type vs f.offset
    Instr.checkKey em (n+1) f.type x
    pure (ForInStep.yield PUnit.unit)
   else pure (ForInStep.yield PUnit.unit)) w=Result.ok PUnit.unit w
 |d,[],off,ts,_,_,_=>by simp
 |d,f::r,off,ts,hf,hs,hl=>by
  rw[yn]at hf
  split at hf
  ·rename_i hcond
   obtain⟨ho,il⟩:=hcond
   split at hf
   ·rename_i s QK
    split at hf
    ·rename_i uR
     simp only[Option.map_eq_some_iff]at hf
     obtain⟨Lh,hr,rfl⟩:=hf
     simp only[List.length_cons]at hl
     have ih:=xb em n vs d r (off+1) Lh hr (fun f hf=>hs f (List.mem_cons_of_mem _ hf)) (by omega)
     have hu:vs[off]? =some vs[off]:=by simp
     simp only[List.forIn_cons,Sem.run_bind,if_pos il,ho,mJ uR hu,Result.andThen_ok,w9 QK,Sem.run_pure]
     exact ih
    ·cases hf
   ·rename_i hn
    have:=hs f (by simp)
    rw[hn]at this;cases this
  ·cases hf
theorem EL {k:TypeId} {m:MK} (hk:Fg P k m) (em:Bool) (key:AV) (u:Value) (uR:key.isAgg=m.ka) (hlen:key.cells.length=m.ks) (hr:dh P w D ι key u):(Instr.checkKey em 10000 k u).run P w=.ok () w:=by
 rcases hk with⟨s,rfl,hs⟩|⟨fs,ts,rfl,rV,xP,dQ,dE⟩
 ·exact w9 hs em 9999 u
 ·cases key<;>simp[AV.isAgg]at uR
  rename_i cs
  obtain⟨vs,f,rfl,h1,_⟩:=iA hr
  unfold Instr.checkKey
  simp only[Sem.run_bind,run_underlying rV,Result.andThen_ok]
  rw[<-Array.forIn_toList]
  have h:=xb (P:=P) (w:=w) em 9998 vs 3 fs.toList 0 ts xP dE (by simp[AV.cells,MK.ks]at hlen;omega)
  rw[h]
  rfl
theorem II (a b:ByteArray):(a==b)=decide (a=b):=by
 by_cases h:a=b
 ·subst h;rw[decide_eq_true rfl]
  obtain⟨x⟩:=a
  show(x==x)=true
  simp
 ·rw[decide_eq_false h,Bool.eq_false_iff]
  intro hc
  obtain⟨x⟩:=a
  obtain⟨y⟩:=b
  exact h (by rw[show x=y by simpa using(show(x==y)=true from hc)])
theorem Ks {t:TypeId} {s:TS} {x y:AV} {u v:Value} {b:Bool} {d:TypeDesc} (ht:fw P t=some s) (hd:P.underlying t=some d) (he:fX s x y=some b) (hx:dh P w D ι x u) (hy:dh P w D ι y v):Instr.sameNow d u v=some b:=by
 unfold fX at he
 split at he
 ·rename_i k n k' n'
  split at he
  ·rename_i hk
   subst hk
   simp at he;subst he
   obtain⟨q,hq⟩:=pM ht
   rw[hd]at hq;injection hq with hq;subst hq
   rw[dt hx,dt hy]
   simp[Instr.sameNow]
   rfl
  ·cases he
 ·simp at he;subst he
  have hq:=pK ht
  rw[hd]at hq;injection hq with hq;subst hq
  rw[fb hx,fb hy];rfl
 ·rename_i a c
  simp at he;subst he
  have hq:=pN ht
  rw[hd]at hq;injection hq with hq;subst hq
  rw[fH hx,fH hy]
  simp only[Instr.sameNow,II]
 ·cases he
def Found (es:List MapEntry) (i:Nat) (r:Option Nat) (res:Option (Nat×Value)):Prop:=(r=none/\res=none)∨∃j e,r=some (i+j)/\es[j]? =some e/\res=some (i+j,e.val)
theorem vW {e:MapEntry} {es:List MapEntry} {i:Nat} {r:Option Nat} {res:Option (Nat×Value)} (h:Found es (i+1) r res):Found (e::es) i r res:=by
 rcases h with h|⟨j,x,h1,h2,h3⟩
 ·exact .inl h
 ·exact .inr ⟨j+1,x,by rw[h1];congr 1;omega,by simpa using h2,by rw[h3];congr 2;omega⟩
theorem BE {t:TypeId} {s:TS} {d:TypeDesc} {x:AV} {u:Value} (ht:fw P t=some s) (hd:P.underlying t=some d) (hx:dh P w D ι x u):∀(rows:List (List AV)) (es:List MapEntry) (i:Nat) (r:Option Nat),es.length=rows.length->
  (∀(j:Nat) (cs:List AV),rows[j]? =some cs->∃(e:MapEntry) (kv:AV),es[j]? =some e/\cs.head? =some kv/\dh P w D ι kv e.key)->gh ⟨false,[s]⟩ [x] rows i=some r->∃res,Instr.findNow d u es i=some res/\Found es i r res
 |[],[],i,r,_,_,h=>by
  simp[gh]at h;subst h
  exact⟨none,rfl,.inl ⟨rfl,rfl⟩⟩
 |[],e::es,i,r,hl,_,h=>by simp at hl
 |cs::rows,[],i,r,hl,_,h=>by simp at hl
 |cs::rows,e::es,i,r,hl,hr,h=>by
  obtain⟨e',kv,zM,hk,ia⟩:=hr 0 cs rfl
  simp at zM;subst zM
  have dw:cs.take (MK.ks ⟨false,[s]⟩)=[kv]:=by
   cases cs with
   |nil=>simp at hk
   |cons a l=>simp at hk;subst hk;simp[MK.ks]
  unfold gh at h
  rw[dw]at h
  cases hq:fX s x kv with
  |none=>simp[eY,hq]at h
  |some b=>
   have hs:=Ks ht hd hq hx ia
   cases b with
   |true=>
    simp[eY,hq]at h;subst h
    exact⟨some (i,e.val),by simp[Instr.findNow,hs],.inr ⟨0,e,rfl,rfl,rfl⟩⟩
   |false=>
    simp[eY,hq]at h
    obtain⟨res,h1,h2⟩:=BE ht hd hx rows es (i+1) r (by simpa using hl) (fun j cs hj=>hr (j+1) cs (by simpa using hj)) h
    exact⟨res,by simp[Instr.findNow,hs,h1],vW h2⟩
theorem qo {t:TypeId} {fs:Array Field} {ts:List TS} {xs ys:List AV} {vs us:Array Value} {b:Bool} (rV:P.underlying t=some (.struct fs)) (dQ:P.stoodInHeld t=false) (xP:eK P 4 0 fs.toList=some ts) (hx:fo P w D ι xs vs) (hy:fo P w D ι ys us) (hv:eY ts xs ys=some b):(Op.equal t (.agg vs) (.agg us)).run P w=.ok b w:=by
 obtain⟨l1,l2⟩:=rS hv
 have q:=sq (w:=w) 4 fs.toList 0 ts xP 9998 (by omega) xs ys vs us b hx hy (by simpa[List.take_of_length_le,l1,l2]using hv)
 have Ny:P.fieldsOf t=fs:=by simp[Program.fieldsOf,rV]
 unfold Op.equal
 rw[show Op.maxDepth=9999+1 from rfl,run_equalIn_struct w 9999 t _ _ (by rw[Ny];exact rV) dQ,Ny,q]
theorem sn {cs:List AV} {v:Value} (h:dh P w D ι (.agg cs) v):∃vs,v=.agg vs/\fo P w D ι cs vs:=by
 obtain⟨vs,f,rfl,n1,_,f1,r1⟩:=iA h
 exact⟨vs,rfl,n1,fun j a ha=>⟨f j,f1 j (List.getElem?_eq_some_iff.1 ha).1,r1 j a ha⟩⟩
theorem BD {t:TypeId} {fs:Array Field} {ts:List TS} {xs:List AV} {vs:Array Value} (rV:P.underlying t=some (.struct fs)) (dQ:P.stoodInHeld t=false) (xP:eK P 4 0 fs.toList=some ts) (hx:fo P w D ι xs vs):∀(rows:List (List AV)) (es:List MapEntry) (i:Nat) (r:Option Nat),es.length=rows.length->
  (∀(j:Nat) (cs:List AV),rows[j]? =some cs->∃e:MapEntry,es[j]? =some e/\dh P w D ι (.agg (cs.take ts.length)) e.key)->gh ⟨true,ts⟩ xs rows i=some r->∃res,(Instr.findAsking t (.agg vs) es i).run P w=.ok res w/\Found es i r res
 |[],[],i,r,_,_,h=>by
  simp[gh]at h;subst h
  exact⟨none,by simp[Instr.findAsking],.inl ⟨rfl,rfl⟩⟩
 |[],e::es,i,r,hl,_,h=>by simp at hl
 |cs::rows,[],i,r,hl,_,h=>by simp at hl
 |cs::rows,e::es,i,r,hl,hr,h=>by
  obtain⟨e',zM,ia⟩:=hr 0 cs rfl
  simp at zM;subst zM
  obtain⟨us,hk,hy⟩:=sn ia
  unfold gh at h
  simp only[MK.ks]at h
  split at h
  ·rename_i hq
   simp at h;subst h
   have q:=qo rV dQ xP hx hy hq
   exact⟨some (i,e.val),by simp[Instr.findAsking,hk,q],.inr ⟨0,e,rfl,rfl,rfl⟩⟩
  ·rename_i hq
   have q:=qo rV dQ xP hx hy hq
   obtain⟨res,h1,h2⟩:=BD rV dQ xP hx rows es (i+1) r (by simpa using hl) (fun j cs hj=>hr (j+1) cs (by simpa using hj)) h
   exact⟨res,by simp[Instr.findAsking,hk,q,h1],vW h2⟩
  ·cases h
theorem vN {a:AV} (h:a.isAgg=false):a.cells=[a]:=by cases a<;>simp_all [AV.isAgg,AV.cells]
theorem vV {k:TypeId} {m:MK} {B:sU} {r:Row} (hk:Fg P k m) {key:AV} {u:Value} (hr:dh P w D ι key u) {es:Array MapEntry} (fh:es.size=r.rows.length)
  (hM:∀(i:Nat) (cs:List AV),r.rows[i]? =some cs->∃(e:MapEntry) (kv vv:AV),es[i]? =some e/\part m.ka m.ks cs=some kv/\cs[m.ks]? =some vv/\dh P w D ι kv e.key/\dh P w D ι vv e.val) {fi:Option Nat} (h:fS m key r.rows=some fi):
  (∀em,(Instr.checkKey em 10000 k u).run P w=.ok () w)/\∃res,(Instr.findKey k u es.toList).run P w=.ok res w/\Found es.toList 0 fi res:=by
 unfold fS at h
 split at h
 ·rename_i hc
  obtain⟨c1,c2,c3⟩:=hc
  refine⟨fun em=>EL hk em key u c1 c2 hr,?_⟩
  rcases hk with⟨s,rfl,hs⟩|⟨fs,ts,rfl,rV,xP,dQ,dE⟩
  ·rw[vN c1]at h
   have hd:∃d,P.underlying k=some d:=by
    cases s with
    |tB=>exact⟨_,pK hs⟩
    |tS=>exact⟨_,pN hs⟩
    |tI=>obtain⟨q,hq⟩:=pM hs;exact⟨_,hq⟩
   obtain⟨d,hd⟩:=hd
   obtain⟨res,h1,h2⟩:=BE hs hd hr r.rows es.toList 0 fi (by simpa using fh) (fun j cs hj=>by
    obtain⟨e,kv,vv,q1,q2,_,q4,_⟩:=hM j cs hj
    exact⟨e,kv,by simpa using q1,by simpa[part]using q2,q4⟩) h
   exact⟨res,by simp[Instr.findKey,run_underlying hd,h1],h2⟩
  ·cases key<;>simp[AV.isAgg]at c1
   rename_i cs
   obtain⟨vs,rfl,hL⟩:=sn hr
   obtain⟨res,h1,h2⟩:=BD rV dQ xP hL r.rows es.toList 0 fi (by simpa using fh) (fun j cs hj=>by
    obtain⟨e,kv,vv,q1,q2,_,q4,_⟩:=hM j cs hj
    unfold part at q2
    simp only[if_true]at q2
    split at q2
    ·simp only[Option.some.injEq]at q2;subst q2
     exact⟨e,by simpa using q1,q4⟩
    ·cases q2) h
   exact⟨res,(run_findKey_eq w (by simp[rV]) _ _).trans h1,h2⟩
 ·cases h
section
variable {g:Rows} {hs:Nat} {env:Env} {a:Act} {o:Oper} {id:Id} {v:AV}
theorem Ac {m:MK} {x:AV} {u:Value} {p:Id×Row} (S:gy P hs D ι g w) (hr:dh P w D ι x u) (h:dR g m x=some p):∃B,u=.map (some B.b)/\g p.1=some p.2/\ι p.1=some B/\B.k=some (.map m)/\Nl P w D ι B m p.2:=by
 unfold dR at h
 split at h
 ·rename_i i m'
  split at h
  ·rename_i hm
   subst hm
   simp only[Option.map_eq_some_iff]at h
   obtain⟨r,hg,rfl⟩:=h
   obtain⟨B,rfl,hB,hk⟩:=F5 hr
   obtain⟨B',dH,R,_⟩:=S.row i r hg
   rw[hB]at dH;injection dH with dH;subst dH
   exact⟨B,rfl,hg,hB,hk,(R.map _ hk).2⟩
  ·cases h
 ·cases h
theorem Qc {t:TypeId} {x k:Operand} {ok:Bool} {m:MK} {z:K} {x' k':O} {mr:Option Row} (S:gy P hs D ι g w) (E:cC P w D ι env a) (ho:o.op=.lookup t x k ok) (hc:s7 P t=some (m,z)) (hx:cO P x=some x') (hk:cO P k=some k')
  (hv:bD (.look m ok z) [dc env x',dc env k'] g id=some (v,mr)):mr=none/\oI P a o w D ι v:=by
 obtain⟨kt,e,i,zv,ht,hi,qm,Tu,hK⟩:=rL hc
 simp only[bD,Option.bind_eq_some_iff,Option.map_eq_some_iff,Prod.mk.injEq]at hv
 obtain⟨p,hp,fi,FJ,y,hy,rfl,rfl⟩:=hv
 obtain⟨B,hu,hg,hB,uQ,es,clock,hb,fh,hlen,hM⟩:=Ac S (dp E hx) hp
 obtain⟨K3,res,hf,hF⟩:=vV (B:=B) hK (dp E hk) fh hM FJ
 have key:∃val,(match res with|some (_,v)=>(v,true)|none=>(zv,false))=(val,fi.isSome)/\dh P w D ι y val:=by
  rcases hF with⟨rfl,rfl⟩|⟨j,en,rfl,he,rfl⟩
  ·simp only[dY,Option.some.injEq]at hy;subst hy
   refine⟨zv,rfl,?_⟩
   rw[zU Tu];exact wZ z
  ·simp only[dY,Option.bind_eq_some_iff,Nat.zero_add]at hy
   obtain⟨cs,dw,hy⟩:=hy
   obtain⟨e',kv,vv,q1,_,q3,_,q5⟩:=hM _ cs dw
   rw[hy]at q3;injection q3 with q3;subst q3
   have:e'=en:=by
    have h1:es.toList[j]? =some e':=by simpa using q1
    rw[he]at h1;injection h1 with h1;exact h1.symm
   subst this
   exact⟨_,rfl,q5⟩
 obtain⟨val,r6,lU⟩:=key
 have fa:(getObj B.b).run P w=.ok (.map es clock) w:=MapKept.run_getObj_map hb
 have hz:(zeroValue e).run P w=.ok zv w:=by simp[zeroValue,typeInfo,hi,qm]
 refine⟨rfl,if ok then .tuple #[val,.bool fi.isSome]else val,?_,?_⟩
 ·simp only[execOp,ho,hu,Instr.lookup,Sem.run_bind,run_underlying ht,Result.andThen_ok,fa,Sem.run_pure,K3,hf]
  rcases hF with⟨rfl,rfl⟩|⟨j,en,rfl,he,rfl⟩
  ·simp only[Prod.mk.injEq]at r6
   simp[hz,r6.1]
  ·simp only[Prod.mk.injEq]at r6
   simp[r6.1]
 ·cases ok with
  |false=>exact lU
  |true=>
   refine .iD _ _ (fun j=>if j=0 then val else .bool fi.isSome) rfl (fun j hj=>?_) (fun j b hj=>?_)
   ·have:j=0∨j=1:=by simp at hj;omega
    rcases this with rfl|rfl<;>rfl
   ·match j,hj with
    |0,hj=>simp at hj;subst hj;exact lU
    |1,hj=>simp at hj;subst hj;exact .eS _ _ (.bool _)
    |j+2,hj=>simp at hj
theorem Qf {t:TypeId} {x:Operand} {m:MK} {z:K} {x':O} {mr:Option Row} (S:gy P hs D ι g w) (E:cC P w D ι env a) (ho:o.op=.call {callee:=.builtin .len,args:= #[x],argTypes:= #[t]}) (hc:s7 P t=some (m,z)) (hx:cO P x=some x')
  (hv:bD (.len m) [dc env x'] g id=some (v,mr)):mr=none/\oI P a o w D ι v:=by
 obtain⟨kt,e,i,zv,ht,hi,qm,Tu,hK⟩:=rL hc
 simp only[bD,Option.map_eq_some_iff,Prod.mk.injEq]at hv
 obtain⟨p,hp,rfl,rfl⟩:=hv
 obtain⟨B,hu,hg,hB,uQ,es,clock,hb,fh,hlen,hM⟩:=Ac S (dp E hx) hp
 have fa:(getObj B.b).run P w=.ok (.map es clock) w:=MapKept.run_getObj_map hb
 refine⟨rfl,.int .i64 (es.size:Int),?_,by rw[fh];exact .eS _ _ (.int _ _)⟩
 simp only[execOp,ho,resolve,Sem.run_bind,Sem.run_pure,Result.andThen_ok,invoke,builtin,Array.map,hu]
 simp[Builtin.len_,run_underlying ht,goInt,hu,fa]
def MkM (P:Program) (a:Act) (o:Oper) (w:World) (id:Id) (v:AV) (r:Row):Prop:=
 ∃m,(execOp a.eval o).run P w=.ok (.value (.map (some w.heap.size))) (w.alloc (.map #[] 0))/\v=.map id m/\r=⟨true,m.ma,[]⟩
theorem Ss {t:TypeId} {m:MK} (ho:o.op=.makeMap t none):MkM P a o w id (.map id m) ⟨true,m.ma,[]⟩:=by
 refine⟨m,?_,rfl,rfl⟩
 simp[execOp,ho,Instr.makeMap,go_sem]
def MkC (P:Program) (a:Act) (o:Oper) (w:World) (id:Id) (v:AV) (r:Row):Prop:=
 ∃n,(execOp a.eval o).run P w=.ok (.value (.chan (some w.heap.size))) (w.alloc (.chan n #[] false 0 0 false))/\v=.rO id/\r=⟨true,qH+n,[]⟩
theorem PA {t e:TypeId} {x:Operand} {x':O} {dir:ChanDir} {i:TypeInfo} {n:Nat} (E:cC P w D ι env a) (ho:o.op=.makeChan t x) (ht:P.underlying t=some (.chan dir e)) (hi:P.info? e=some i) (hb:i.bytes<=32768) (hx:cO P x=some x') (hn:cV (dc env x')=some n):MkC P a o w id (.rO id) ⟨true,qH+n,[]⟩:=by
 refine⟨n,?_,rfl,rfl⟩
 have hr:=dp E hx
 unfold cV at hn
 split at hn
 ·rename_i k m hm
  rw[hm]at hr
  split at hn
  ·rename_i hc
   simp only[Option.some.injEq]at hn
   subst hn
   have NF:((m.toNat:Nat):Int)=m:=by omega
   have dV:(i.bytes:Int)*(m.toNat:Nat)<=281474976710544:=by
    have h1:i.bytes*m.toNat<=32768*1048576:=Nat.mul_le_mul hb (by omega)
    have h2:((i.bytes*m.toNat:Nat):Int)<=281474976710544:=by omega
    rwa [Int.natCast_mul]at h2
   have h:=Conc.run_makeChan (P:=P) (w:=w) ht hi k m.toNat (by omega) dV
   rw[NF]at h
   simp only[execOp,ho,dt hr,Sem.run_bind,h,Result.andThen_ok,Sem.run_pure]
  ·cases hn
 ·cases hn
theorem zx {x:AV} {u:Value} {i:Id} {r:Row} (S:gy P hs D ι g w) (hr:dh P w D ι x u) (hx:x=.rO i) (hg:g i=some r):∃B c,u=.chan (some B.b)/\ι i=some B/\B.k=some (.chan c)/\r.sz=qH+c/\Ip P w D ι B c r:=by
 subst hx
 obtain⟨B,c,rfl,hB,hk⟩:=MR hr
 obtain⟨B',dH,R,_⟩:=S.row i r hg
 rw[hB]at dH;injection dH with dH;subst dH
 exact⟨B,c,rfl,hB,hk,R.chan c hk⟩
theorem P9 {t e:TypeId} {dir:ChanDir} {x:Operand} {x':O} (S:gy P hs D ι g w) (E:cC P w D ι env a) (ho:o.op=.call {callee:=.builtin .len,args:= #[x],argTypes:= #[t]}) (ht:P.underlying t=some (.chan dir e)) (hx:cO P x=some x') (hv:cR g (dc env x')=some v):oI P a o w D ι v:=by
 have hr:=dp E hx
 unfold cR at hv
 split at hv
 ·rename_i i he
  simp only[Option.map_eq_some_iff]at hv
  obtain⟨r,hg,rfl⟩:=hv
  obtain⟨B,c,hu,hB,hk,fh,buf,s,q,hb,K2,_⟩:=zx S hr he hg
  have fa:(getObj B.b).run P w=.ok (.chan c buf false s q false) w:=by simp[getObj,Sem.run,hb]
  refine⟨.int .i64 (buf.size:Int),?_,by rw[K2];exact .eS _ _ (.int _ _)⟩
  simp only[execOp,ho,resolve,Sem.run_bind,Sem.run_pure,Result.andThen_ok,invoke,builtin,Array.map,hu]
  simp[Builtin.len_,run_underlying ht,goInt,hu,fa]
 ·cases hv
end
end Go.Proofs.YtgoljkjaameagaaGreat.V

namespace Go.Proofs.YtgoljkjaameagaaGreat.V
open Go.RowKit
variable {P:Program} {w w':World} {D D':Nat->Prop} {ι ι':Names}
def Lm (P:Program) (a:Act) (o:Oper) (w:World) (D:Nat->Prop) (ι:Names) (id:Id) (v:AV):Option Row->Prop
 |none=>oI P a o w D ι v
 |some r=>Mk P a o w D ι id v r∨MkM P a o w id v r∨MkC P a o w id v r
section
variable {g:Rows} {hs:Nat} {env:Env} {a:Act} {o:Oper} {id:Id} {v:AV}
theorem lN {x:Option AV} {mr:Option Row} (h:x.map (·,(none:Option Row))=some (v,mr)) (H:x=some v->oI P a o w D ι v):Lm P a o w D ι id v mr:=by
 cases x with
 |none=>simp at h
 |some y=>simp at h;obtain⟨rfl,rfl⟩:=h;exact H rfl
theorem SA {neg:Bool} {t yt:TypeId} {x y:Operand} {vo:gz} {mr:Option Row} (ho:o.op=.binOp (if neg then .neq else .eql) t x y yt) (hc:s6 P neg t x y=some vo) (hq:eP vo (dc env) g id=some (v,mr)) (E:cC P w D ι env a):Lm P a o w D ι id v mr:=by
 unfold s6 at hc
 split at hc
 ·split at hc
  ·rename_i e ht
   simp only[Option.map_eq_some_iff]at hc
   obtain⟨x',hx,rfl⟩:=hc
   simp only[eP,ef,Bool.false_eq_true,if_false,Option.map_eq_some_iff,Prod.mk.injEq]at hq
   obtain⟨b,hb,rfl,rfl⟩:=hq
   exact P5 E ho ht hx hb
  ·simp at hc
 ·split at hc
  ·rename_i ht
   simp only[Option.map_eq_some_iff]at hc
   obtain⟨x',hx,rfl⟩:=hc
   simp only[eP,ef,if_true,Option.map_eq_some_iff,Prod.mk.injEq]at hq
   obtain⟨b,hb,rfl,rfl⟩:=hq
   exact P4 E ho ht hx hb
  ·simp at hc
 ·split at hc
  ·rename_i ht
   simp only[Option.map_eq_some_iff]at hc
   obtain⟨x',hx,rfl⟩:=hc
   simp only[eP,Option.map_eq_some_iff,Prod.mk.injEq]at hq
   obtain⟨b,hb,rfl,rfl⟩:=hq
   exact SP E ho ht hx hb
  ·simp at hc
 ·split at hc
  ·rename_i s hs
   simp only[Option.bind_eq_bind,Option.bind_eq_some_iff,Option.pure_def,Option.some.injEq]at hc
   obtain⟨x',hx,y',hy,rfl⟩:=hc
   simp only[eP,Option.map_eq_some_iff,Prod.mk.injEq]at hq
   obtain⟨b,hb,rfl,rfl⟩:=hq
   have B4:fw P t=some s:=by
    unfold Ub at hs
    split at hs
    ·rename_i s' h;simp at hs;subst hs;exact h
    ·split at hs
     ·split at hs
      ·simp at hs
      ·simp at hs
     ·simp at hs
   exact SQ E ho B4 hx hy hb
  ·rename_i ts hs
   simp only[Option.bind_eq_bind,Option.bind_eq_some_iff,Option.pure_def,Option.some.injEq]at hc
   obtain⟨x',hx,y',hy,rfl⟩:=hc
   simp only[eP]at hq
   split at hq
   ·rename_i xs ys h1 h2
    simp only[Option.map_eq_some_iff,Prod.mk.injEq]at hq
    obtain⟨b,hb,rfl,rfl⟩:=hq
    unfold Ub at hs
    split at hs
    ·simp at hs
    ·split at hs
     ·rename_i fs rV
      split at hs
      ·rename_i hg
       simp only[Option.map_eq_some_iff,TW.ag.injEq]at hs
       obtain⟨Lh,xP,rfl⟩:=hs
       simp only[Bool.and_eq_true,Bool.not_eq_true']at hg
       exact SO E ho rV hg.1 hg.2 xP hx hy h1 h2 hb
      ·simp at hs
     ·simp at hs
   ·simp at hq
  ·simp at hc
theorem PH {c:Call} {vo:gz} {mr:Option Row} (ho:o.op=.call c) (hc:nK P c=some vo) (hq:eP vo (dc env) g id=some (v,mr)) (S:gy P hs D ι g w) (E:cC P w D ι env a):Lm P a o w D ι id v mr:=by
 unfold nK at hc
 split at hc
 ·rename_i kH
  split at hc
  ·rename_i x t h1 h2
   have hce:c={callee:=.builtin .len,args:= #[x],argTypes:= #[t]}:=by
    obtain⟨a,b,c⟩:=c
    simp only at h1 h2 kH
    subst kH
    congr
    ·exact Array.ext' h1
    ·exact Array.ext' h2
   rw[hce]at ho
   split at hc
   ·rename_i e ht
    simp only[Option.map_eq_some_iff]at hc
    obtain⟨x',hx,rfl⟩:=hc
    simp only[eP,Option.map_eq_some_iff,Prod.mk.injEq]at hq
    obtain⟨n,hn,rfl,rfl⟩:=hq
    exact SR E ho ht hx hn
   ·rename_i ht
    simp only[Option.map_eq_some_iff]at hc
    obtain⟨x',hx,rfl⟩:=hc
    exact lN hq fun h=>Qa E ho ht hx h
   ·split at hc
    ·rename_i m z x' hm hx
     simp only[Option.some.injEq]at hc
     subst hc
     obtain⟨rfl,h⟩:=Qf (id:=id) S E ho hm hx hq
     exact h
    ·cases hc
   ·rename_i ht
    simp only[Option.map_eq_some_iff]at hc
    obtain⟨x',hx,rfl⟩:=hc
    exact lN hq fun h=>P9 S E ho ht hx h
   ·simp at hc
  ·simp at hc
 ·split at hc
  ·split at hc
   ·split at hc
    ·split at hc
     ·simp only[Option.bind_eq_bind,Option.bind_eq_some_iff,Option.pure_def,Option.some.injEq]at hc
      obtain⟨x',hx,y',hy,rfl⟩:=hc
      simp[eP]at hq
     ·simp at hc
    ·simp at hc
   ·simp at hc
  ·simp at hc
 ·split at hc
  ·split at hc
   ·split at hc
    ·simp only[Option.map_eq_some_iff]at hc
     obtain⟨x',hx,rfl⟩:=hc
     simp[eP]at hq
    ·simp at hc
   ·simp at hc
  ·simp at hc
 ·split at hc
  ·simp only[Option.map_eq_some_iff]at hc
   obtain⟨x',hx,rfl⟩:=hc
   simp[eP]at hq
  ·simp at hc
 ·simp only[Option.map_eq_some_iff]at hc
  obtain⟨x',hx,rfl⟩:=hc
  simp[eP]at hq
 ·split at hc
  ·split at hc
   ·simp only[Option.some.injEq]at hc
    subst hc
    simp[eP]at hq
   ·cases hc
  ·cases hc
 ·split at hc
  ·split at hc
   ·split at hc
    ·simp only[Option.bind_eq_bind,Option.bind_eq_some_iff,Option.pure_def,Option.some.injEq]at hc
     obtain⟨x',hx,y',hy,rfl⟩:=hc
     simp[eP]at hq
    ·simp at hc
   ·simp at hc
  ·simp at hc
 ·simp at hc
theorem y6 {vo:gz} {mr:Option Row} (hc:rn P o.op=some vo) (hq:eP vo (dc env) g id=some (v,mr)) (S:gy P hs D ι g w) (E:cC P w D ι env a):Lm P a o w D ι id v mr:=by
 unfold rn at hc
 split at hc
 ·rename_i ho
  simp only[Option.map_eq_some_iff]at hc
  obtain⟨x',hx,rfl⟩:=hc
  simp[eP]at hq;obtain⟨rfl,rfl⟩:=hq
  exact NY E (.inl ho) hx
 ·rename_i ho
  simp only[Option.map_eq_some_iff]at hc
  obtain⟨x',hx,rfl⟩:=hc
  simp[eP]at hq;obtain⟨rfl,rfl⟩:=hq
  exact NY E (.inr ho) hx
 ·rename_i ho
  simp only[Option.bind_eq_bind,Option.bind_eq_some_iff,Option.pure_def,Option.some.injEq]at hc
  obtain⟨c',h1,x',h2,y',h3,rfl⟩:=hc
  exact lN hq fun h=>Qg E ho h1 h2 h3 h
 ·rename_i ho
  simp only[Option.map_eq_some_iff]at hc
  obtain⟨z,hz,rfl⟩:=hc
  simp only[eP,Option.some.injEq,Prod.mk.injEq]at hq
  obtain⟨rfl,rfl⟩:=hq
  exact .inl (Su ho hz)
 ·rename_i ho
  simp only[Option.map_eq_some_iff]at hc
  obtain⟨x',hx,rfl⟩:=hc
  simp only[eP,Option.map_eq_some_iff,Prod.mk.injEq]at hq
  obtain⟨cs,dw,rfl,rfl⟩:=hq
  exact .inl (Sr E ho hx dw)
 ·rename_i ho
  simp only[Option.bind_eq_bind,Option.bind_eq_some_iff,Option.pure_def,Option.some.injEq]at hc
  obtain⟨ag,h1,n,h2,x',h3,rfl⟩:=hc
  exact lN hq fun h=>Qb S E ho h1 h2 h3 h
 ·rename_i ho
  simp only[Option.bind_eq_bind,Option.bind_eq_some_iff,Option.pure_def,Option.some.injEq]at hc
  obtain⟨n,h2,x',h3,y',h4,rfl⟩:=hc
  simp[eP]at hq
 ·rename_i ho
  simp only[Option.map_eq_some_iff]at hc
  obtain⟨x',hx,rfl⟩:=hc
  exact lN hq fun h=>SN E ho hx h
 ·rename_i op t x y yt ho
  unfold vH at hc
  split at hc
  ·exact SA (neg:=false) ho hc hq E
  ·exact SA (neg:=true) ho hc hq E
  ·simp only[Option.bind_eq_bind,Option.bind_eq_some_iff,Option.pure_def,Option.some.injEq]at hc
   obtain⟨x',h3,y',h4,rfl⟩:=hc
   exact lN hq fun h=>SV (left:=true) E ho h3 h4 h
  ·simp only[Option.bind_eq_bind,Option.bind_eq_some_iff,Option.pure_def,Option.some.injEq]at hc
   obtain⟨x',h3,y',h4,rfl⟩:=hc
   exact lN hq fun h=>SV (left:=false) E ho h3 h4 h
  ·rename_i n1 n2 n3 n4
   split at hc
   ·simp only[Option.bind_eq_bind,Option.bind_eq_some_iff,Option.pure_def,Option.some.injEq]at hc
    obtain⟨x',h3,y',h4,rfl⟩:=hc
    exact lN hq fun h=>SM E ho n1 n2 h3 h4 h
   ·simp only[Option.bind_eq_bind,Option.bind_eq_some_iff,Option.pure_def,Option.some.injEq]at hc
    obtain⟨x',h3,y',h4,rfl⟩:=hc
    exact lN hq fun h=>P0 E ho n1 n2 h3 h4 h
   ·simp at hc
 ·rename_i ho
  simp only[Option.map_eq_some_iff]at hc
  obtain⟨x',hx,rfl⟩:=hc
  exact lN hq fun h=>SU E ho hx h
 ·rename_i ho
  simp only[Option.map_eq_some_iff]at hc
  obtain⟨x',hx,rfl⟩:=hc
  exact lN hq fun h=>SS E ho hx h
 ·rename_i ho
  split at hc
  ·rename_i q k h1 h2
   simp only[Option.map_eq_some_iff]at hc
   obtain⟨x',hx,rfl⟩:=hc
   exact lN hq fun h=>P3 E ho h1 h2 hx h
  ·rename_i h1 h2
   simp only[Option.map_eq_some_iff]at hc
   obtain⟨x',hx,rfl⟩:=hc
   exact lN hq fun h=>by
    have hr:=dp E hx
    unfold bU at h
    split at h
    ·rename_i s hb
     simp at h;subst h
     rw[hb]at hr
     exact⟨.string s,by simp only[execOp,ho,fH hr,convert,Sem.run_bind,run_underlying h1,run_underlying h2,Result.andThen_ok,Sem.run_pure],.eS _ _ (.str _)⟩
    ·simp at h
  ·simp at hc
 ·rename_i ho
  split at hc
  ·rename_i e ht
   simp only[Option.bind_eq_bind,Option.bind_eq_some_iff,Option.pure_def,Option.some.injEq]at hc
   obtain⟨n,h1,x',h2,lo,h3,hi,h4,rfl⟩:=hc
   exact lN hq fun h=>Ni S E ho ht h1 h2 h3 h4 h
  ·rename_i ht
   simp only[Option.bind_eq_bind,Option.bind_eq_some_iff,Option.pure_def,Option.some.injEq]at hc
   obtain⟨x',h2,lo,h3,hi,h4,rfl⟩:=hc
   exact lN hq fun h=>KX E ho ht h2 h3 h4 h
  ·simp at hc
 ·rename_i ho
  split at hc
  ·rename_i fs rV
   split at hc
   ·rename_i f hf
    split at hc
    ·rename_i m hm
     simp only[Option.map_eq_some_iff]at hc
     obtain⟨x',hx,rfl⟩:=hc
     exact lN hq fun h=>Nf E ho rV hf hm hx h
    ·simp at hc
   ·simp at hc
  ·simp at hc
 ·rename_i ho
  split at hc
  ·rename_i fs rV
   split at hc
   ·rename_i f hf
    simp only[Option.bind_eq_bind,Option.bind_eq_some_iff,Option.pure_def,Option.some.injEq]at hc
    obtain⟨ag,h1,n,h2,x',h3,rfl⟩:=hc
    exact lN hq fun h=>Ng E ho rV hf h1 h2 h3 h
   ·simp at hc
  ·simp at hc
 ·rename_i ho
  split at hc
  ·rename_i e ht
   split at hc
   ·rename_i m hm
    simp only[Option.bind_eq_bind,Option.bind_eq_some_iff,Option.pure_def,Option.some.injEq]at hc
    obtain⟨x',h1,i',h2,rfl⟩:=hc
    exact lN hq fun h=>Nh S E ho ht hm h1 h2 h
   ·simp at hc
  ·rename_i len e ht
   split at hc
   ·rename_i m hm
    simp only[Option.bind_eq_bind,Option.bind_eq_some_iff,Option.pure_def,Option.some.injEq]at hc
    obtain⟨x',h1,i',h2,rfl⟩:=hc
    exact lN hq fun h=>P6 E ho ht hm h1 h2 h
   ·simp at hc
  ·simp at hc
 ·rename_i ho
  split at hc
  ·rename_i ht
   simp only[Option.bind_eq_bind,Option.bind_eq_some_iff,Option.pure_def,Option.some.injEq]at hc
   obtain⟨x',h1,i',h2,rfl⟩:=hc
   exact lN hq fun h=>P8 E ho ht h1 h2 h
  ·rename_i len e ht
   simp only[Option.bind_eq_bind,Option.bind_eq_some_iff,Option.pure_def,Option.some.injEq]at hc
   obtain⟨ag,h0,n,h1,x',h2,i',h3,rfl⟩:=hc
   exact lN hq fun h=>P7 E ho ht h0 h1 h2 h3 h
  ·simp at hc
 ·rename_i ho
  simp only[Option.map_eq_some_iff]at hc
  obtain⟨x',hx,rfl⟩:=hc
  exact lN hq fun h=>H6 E ho hx h
 ·rename_i ho
  split at hc
  ·rename_i fs rV
   split at hc
   ·rename_i z l hz hl
    split at hc
    ·rename_i dE
     simp only[Option.map_eq_some_iff]at hc
     obtain⟨q,Ie,rfl⟩:=hc
     simp only[eP,Option.map_eq_some_iff,Prod.mk.injEq]at hq
     obtain⟨cs,dw,rfl,rfl⟩:=hq
     exact Nd E ho rV hz hl (fun f hf=>by
      rw[Array.all_eq_true_iff_forall_mem]at dE
      exact dE f (Array.mem_toList_iff.1 hf)) Ie dw
    ·simp at hc
   ·simp at hc
  ·rename_i len e ht
   split at hc
   ·rename_i z l n hz hl hn
    simp only[Option.some.injEq]at hc
    subst hc
    simp only[eP,Option.map_eq_some_iff,Prod.mk.injEq]at hq
    obtain⟨cs,dw,rfl,rfl⟩:=hq
    exact KW E ho ht hz hl hn dw
   ·simp at hc
  ·simp at hc
 ·rename_i ho
  split at hc
  ·rename_i e ht
   split at hc
   ·rename_i sz z l h1 h2 h3
    split at hc
    ·rename_i hh
     simp only[Option.some.injEq]at hc
     subst hc
     simp only[eP,Option.map_eq_some_iff,Prod.mk.injEq]at hq
     obtain⟨rs,yI,rfl,rfl⟩:=hq
     exact .inl (JV E ho ht h1 h2 h3 hh.1 hh.2 (by rw[List.map_map]at yI;exact yI))
    ·simp at hc
   ·simp at hc
  ·simp at hc
 ·rename_i ho
  split at hc
  ·rename_i hh
   simp only[Option.map_eq_some_iff]at hc
   obtain⟨l,hl,rfl⟩:=hc
   simp[eP]at hq;obtain⟨rfl,rfl⟩:=hq
   exact Qd E ho hh.1 hh.2 hl
  ·split at hc
   ·rename_i hh
    simp only[Option.map_eq_some_iff]at hc
    obtain⟨l,hl,rfl⟩:=hc
    simp[eP]at hq;obtain⟨rfl,rfl⟩:=hq
    exact Qe E ho hh.1 hh.2 hl
   ·simp at hc
 ·rename_i ho
  split at hc
  ·rename_i e ht
   split at hc
   ·rename_i m z i h1 h2 h3
    split at hc
    ·rename_i hb
     simp only[Option.bind_eq_bind,Option.bind_eq_some_iff,Option.pure_def,Option.some.injEq]at hc
     obtain⟨l',h4,c',h5,rfl⟩:=hc
     simp only[eP,Option.map_eq_some_iff,Prod.mk.injEq]at hq
     obtain⟨⟨n,r⟩,hr,rfl,rfl⟩:=hq
     exact .inl (Ho E ho ht h1 h2 h3 hb h4 h5 hr)
    ·simp at hc
   ·simp at hc
  ·simp at hc
 ·rename_i ho
  exact PH ho hc hq S E
 ·rename_i ho
  split at hc
  ·rename_i dir e ht
   split at hc
   ·rename_i i hi
    split at hc
    ·rename_i hb
     simp only[Option.map_eq_some_iff]at hc
     obtain⟨x',hx,rfl⟩:=hc
     simp only[eP,Option.map_eq_some_iff,Prod.mk.injEq]at hq
     obtain⟨n,hn,rfl,rfl⟩:=hq
     exact .inr (.inr (PA E ho ht hi hb hx hn))
    ·cases hc
   ·cases hc
  ·cases hc
 ·simp only[Option.bind_eq_bind,Option.bind_eq_some_iff,Option.pure_def,Option.some.injEq]at hc
  obtain⟨x',_,y',_,rfl⟩:=hc
  simp[eP]at hq
 ·split at hc
  ·split at hc
   ·simp only[Option.map_eq_some_iff]at hc
    obtain⟨x',_,rfl⟩:=hc
    simp[eP]at hq
   ·cases hc
  ·cases hc
 ·rename_i ho
  split at hc
  ·rename_i m z hm
   simp only[Option.some.injEq]at hc
   subst hc
   simp only[eP,List.map_nil,bD,Option.some.injEq,Prod.mk.injEq]at hq
   obtain⟨rfl,rfl⟩:=hq
   exact .inr (.inl (Ss ho))
  ·cases hc
 ·rename_i ho
  split at hc
  ·rename_i m z x' k' hm hx hk
   simp only[Option.some.injEq]at hc
   subst hc
   obtain⟨rfl,h⟩:=Qc (id:=id) S E ho hm hx hk hq
   exact h
  ·cases hc
 ·split at hc
  ·simp only[Option.some.injEq]at hc
   subst hc
   simp[eP]at hq
  ·cases hc
 ·split at hc
  ·simp only[Option.some.injEq]at hc
   subst hc
   simp[eP]at hq
  ·cases hc
 ·simp only[Option.some.injEq]at hc
  subst hc
  simp[eP]at hq
 ·simp only[Option.some.injEq]at hc
  subst hc
  simp[eP]at hq
 ·simp at hc
end
end Go.Proofs.YtgoljkjaameagaaGreat.V

namespace Go.Proofs.YtgoljkjaameagaaGreat.V
open Go.RowKit
variable {P:Program} {w w':World} {D D':Nat->Prop} {ι ι':Names}
def kC (ι:Names) (id:Id) (B:sU):Names:=fun i=>if i=id then some B else ι i
theorem eA (ι:Names) (id:Id) (B:sU):kC ι id B id=some B:=if_pos rfl
theorem fU {ι:Names} {id:Id} {B:sU} (h:ι id=none):∀i B',ι i=some B'->kC ι id B i=some B':=fun i B' hi=>by
 have:i≠id:=by rintro rfl;rw[h]at hi;cases hi
 rw[kC,if_neg this];exact hi
theorem gp {ι:Names} {id i:Id} {B:sU} (h:i≠id):kC ι id B i=ι i:=if_neg h
section
variable {g:Rows} {hs:Nat} {env:Env} {a:Act} {o:Oper} {id:Id} {v:AV}
theorem kV.frame {B:sU} {r:Row} (h:kV P w D ι B r) (hb:w'.heap[B.b]? =w.heap[B.b]?) (hr:∀a v,dh P w D ι a v->dh P w' D' ι' a v):kV P w' D' ι' B r:=
 ⟨h.sz,by obtain⟨c,T,h1,h2⟩:=h.ye;exact⟨c,T,hb.trans h1,h2⟩,h.fits,h.len,h.flat,fun i j cs a hi hj=>by
  obtain⟨v,h1,h2⟩:=h.at_ i j cs a hi hj
  exact⟨v,(World.cell?_of_block (a:=⟨B.b,i*r.sz+j,none⟩) hb).trans h1,hr _ _ h2⟩⟩
theorem ib.frame {B:sU} {r:Row} (h:ib P w D ι B r) (hb:w'.heap[B.b]? =w.heap[B.b]?) (hr:∀a v,dh P w D ι a v->dh P w' D' ι' a v):ib P w' D' ι' B r:=
 ⟨h.sz,h.flat,fun hk=>(h.row hk).frame hb hr,fun m hm=>by
  obtain⟨h1,es,c,h2,h3,h5,h4⟩:=h.map m hm
  refine⟨h1,es,c,hb.trans h2,h3,h5,fun i cs hi=>?_⟩
  obtain⟨e,kv,vv,q1,q2,q3,q4,q5⟩:=h4 i cs hi
  exact⟨e,kv,vv,q1,q2,q3,hr _ _ q4,hr _ _ q5⟩,fun c hc=>by
  obtain⟨h1,buf,s,q,h2,h3,h4⟩:=h.chan c hc
  refine⟨h1,buf,s,q,hb.trans h2,h3,fun i cs hi=>?_⟩
  obtain⟨a,u,q1,q2,q3⟩:=h4 i cs hi
  exact⟨a,u,q1,q2,hr _ _ q3⟩⟩
theorem gy.kill (S:gy P hs D ι g w) (i:Id):gy P hs D ι (cq g i) w:=by
 refine⟨S.lo,S.dead,fun id r h=>?_,fun id k6 r r' B B' h h' hw hB dH hb=>?_⟩
 ·unfold cq at h;split at h
  ·cases h
  ·exact S.row id r h
 ·unfold cq at h h'
  split at h
  ·cases h
  ·split at h'
   ·cases h'
   ·exact S.inj id k6 r r' B B' h h' hw hB dH hb
theorem gy.sub {g':Rows} (S:gy P hs D ι g w) (h:∀id r,g' id=some r->g id=some r):gy P hs D ι g' w:=
 ⟨S.lo,S.dead,fun id r hr=>S.row id r (h id r hr),fun id k6 r r' B B' h1 h2=>S.inj id k6 r r' B B' (h _ _ h1) (h _ _ h2)⟩
theorem AI {hid:List Nat} {n:Nat} {g:Rows}:∀id r,fY hid n g id=some r->g id=some r:=fun id r h=>by
 cases hid with
 |nil=>exact h
 |cons a l=>
  have e:fY (a::l) n g id=if (a::l).contains id.site=true/\id.bj=n then none else g id:=rfl
  rw[e]at h
  by_cases hc:(a::l).contains id.site=true/\id.bj=n
  ·rw[if_pos hc]at h;cases h
  ·rw[if_neg hc]at h;exact h
theorem gy.stay (S:gy P hs D ι g w) (hb:∀b,b<w.heap.size->w'.heap[b]? =w.heap[b]?) (hz:w.heap.size<=w'.heap.size) (hD:∀b,D b->D' b) (hD':∀b,D' b->b<w'.heap.size) (k5:∀b,D' b->D b∨w.heap.size<=b) (hι:∀id B,ι id=some B->ι' id=some B):gy P hs D' ι' g w':=by
 have hr:∀a v,dh P w D ι a v->dh P w' D' ι' a v:=fun a v h=>h.frame (fun b hd=>hb b (S.dead b hd)) hD hι
 have lt:∀{id r B},g id=some r->ι id=some B->B.b<w.heap.size:=fun {id r B} h hB=>by
  obtain⟨B',dH,R,_⟩:=S.row id r h
  rw[hB]at dH;injection dH with dH;subst dH
  exact R.lt
 refine⟨Nat.le_trans S.lo hz,hD',fun id r h=>?_,fun id k6 r r' B B' h h' hw hB dH he=>?_⟩
 ·obtain⟨B,hB,R,h1,h2⟩:=S.row id r h
  exact⟨B,hι _ _ hB,R.frame (hb _ (lt h hB)) hr,h1,fun hw hd=>by
   rcases k5 _ hd with hd|hd
   ·exact h2 hw hd
   ·have:=lt h hB;omega⟩
 ·obtain⟨C,hC,_⟩:=S.row id r h
  obtain⟨C',DQ,_⟩:=S.row k6 r' h'
  have e1:=hι _ _ hC
  have e2:=hι _ _ DQ
  rw[hB]at e1;injection e1 with e1;subst e1
  rw[dH]at e2;injection e2 with e2;subst e2
  exact S.inj id k6 r r' _ _ h h' hw hC DQ he
theorem Step.stay (S:gy P hs D ι g w) (hb:∀b,b<w.heap.size->w'.heap[b]? =w.heap[b]?) (hz:w.heap.size<=w'.heap.size) (e1:w'.os=w.os) (e2:w'.tape=w.tape) (e3:w'.output=w.output) (hD:∀b,D b->D' b) (k5:∀b,D' b->D b∨w.heap.size<=b) (hι:∀id B,ι id=some B->ι' id=some B):Step hs D ι w D' ι' w':=
 ⟨⟨e1,e2,e3,hz,fun k hk=>hb k (Nat.lt_of_lt_of_le hk S.lo)⟩,fun b hd=>hb b (S.dead b hd),hD,hι,fun b h=>(k5 b h).imp_right (Nat.le_trans S.lo)⟩
theorem gy.alloc (S:gy P hs D ι g w) {cells:Array Value} {T:TypeId} {r:Row} (hh:w'.heap=w.heap.push (.cells cells T (0,0))) (hn:ι id=none) (hw:r.w=true) (h1:r.rows.length*r.sz<=cells.size) (h2:∀cs∈r.rows,cs.length=r.sz) (h3:∀cs∈r.rows,∀a∈cs,a.cell=true)
  (h4:∀i j cs a,r.rows[i]? =some cs->cs[j]? =some a->∃x,cells[i*r.sz+j]? =some x/\dh P w D ι a x):gy P hs D (kC ι id ⟨w.heap.size,r.sz,cells.size,none⟩) (bR g id r) w':=by
 have hb:∀b,b<w.heap.size->w'.heap[b]? =w.heap[b]? :=fun b dV=>by rw[hh,Array.getElem?_push,if_neg (by omega)]
 have hz:w.heap.size<=w'.heap.size:=by rw[hh];simp
 have S':=S.stay (D':=D) (ι':=kC ι id ⟨w.heap.size,r.sz,cells.size,none⟩) hb hz (fun _ h=>h) (fun b hd=>Nat.lt_of_lt_of_le (S.dead b hd) hz) (fun _ h=>.inl h) (fU hn)
 have hr:∀a v,dh P w D ι a v->dh P w' D (kC ι id ⟨w.heap.size,r.sz,cells.size,none⟩) a v:=fun a v h=>h.frame (fun b hd=>hb b (S.dead b hd)) (fun _ h=>h) (fU hn)
 have k5:w'.heap[w.heap.size]? =some (.cells cells T (0,0)):=by rw[hh];simp
 have gone:g id=none:=by
  cases hg:g id with
  |none=>rfl
  |some q=>
   obtain⟨B,hB,_⟩:=S.row id q hg
   rw[hn]at hB;cases hB
 have lt:∀{i q B},g i=some q->ι i=some B->B.b<w.heap.size:=fun {i q B} h hB=>by
  obtain⟨B',dH,R,_⟩:=S.row i q h
  rw[hB]at dH;injection dH with dH;subst dH
  exact R.lt
 refine⟨S'.lo,S'.dead,fun i q h=>?_,fun i i' q q' B B' h h' R3 hB dH he=>?_⟩
 ·unfold bR at h
  split at h
  ·rename_i e
   subst e
   injection h with h;subst h
   refine⟨_,eA _ _ _,kV.obj ⟨rfl,⟨cells,T,k5,rfl⟩,h1,h2,h3,fun k j cs a hk hj=>?_⟩ rfl,fun _=>S.lo,fun _ hd=>?_⟩
   ·obtain⟨x,hx,hrx⟩:=h4 k j cs a hk hj
    exact⟨x,by simp[World.cell?,k5,hx],hr _ _ hrx⟩
   ·have:=S.dead _ hd;simp at this
  ·exact S'.row i q h
 ·unfold bR at h h'
  split at h
  ·rename_i e
   split at h'
   ·rename_i e';exact e.trans e'.symm
   ·exfalso
    rename_i e'
    subst e
    rw[eA]at hB;injection hB with hB;subst hB
    rw[gp e']at dH
    have:=lt h' dH
    simp at he;omega
  ·rename_i e
   split at h'
   ·exfalso
    rename_i e'
    subst e'
    rw[eA]at dH;injection dH with dH;subst dH
    rw[gp e]at hB
    have:=lt h hB
    simp at he;omega
   ·exact S'.inj i i' q q' B B' h h' R3 hB dH he
theorem gy.put (S:gy P hs D ι g w) {r r':Row} {B:sU} {cur cur':Array Value} {T:TypeId} (hid:g id=some r) (hw:r.w=true) (hB:ι id=some B) (hblk:w.heap[B.b]? =some (.cells cur T (0,0))) (fh:cur'.size=cur.size)
  (h0:r'.w=true) (h1:r'.sz=r.sz) (h2:r'.rows.length*r'.sz<=B.C) (h3:∀cs∈r'.rows,cs.length=r'.sz) (h4:∀cs∈r'.rows,∀a∈cs,a.cell=true)
  (h5:∀i j cs a,r'.rows[i]? =some cs->cs[j]? =some a->∃v,cur'[i*r.sz+j]? =some v/\dh P w D ι a v):gy P hs D ι (bR g id r') (w.setRow B.b cur')/\Step hs D ι w D ι (w.setRow B.b cur'):=by
 obtain⟨B0,xt,RO,ke,mh⟩:=S.row id r hid
 rw[hB]at xt;injection xt with xt;subst xt
 have xw:=RO.MB hblk
 have R:=RO.row xw
 have hd:∀b,D b->(w.setRow B.b cur').heap[b]? =w.heap[b]? :=fun b hb=>setRow_other w B.b b cur' (by rintro rfl;exact mh hw hb)
 have hr:∀a v,dh P w D ι a v->dh P (w.setRow B.b cur') D ι a v:=fun a v h=>h.frame hd (fun _ h=>h) (fun _ _ h=>h)
 have hC:cur.size=B.C:=by
  obtain⟨c,T',h1,h2⟩:=R.ye
  rw[hblk]at h1;injection h1 with h1;injection h1 with h1 OA;subst h1;exact h2
 refine⟨⟨by simpa using S.lo,fun b hb=>by simpa using S.dead b hb,fun i q h=>?_,fun i i' q q' C C' h h' R3 hC DQ he=>?_⟩,⟨⟨by simp,by simp,by simp,by simp,fun k hk=>setRow_other w B.b k cur' (by have:=ke hw;omega)⟩,hd,fun _ h=>h,fun _ _ h=>h,fun _ h=>.inl h⟩⟩
 ·unfold bR at h
  split at h
  ·rename_i e
   subst e
   injection h with h;subst h
   refine⟨B,hB,kV.obj ⟨by rw[h1];exact R.sz,⟨cur',T,setRow_heap w B.b cur cur' T _ hblk,by rw[fh];exact hC⟩,h2,h3,h4,fun k j cs a hk hj=>?_⟩ xw,fun _=>ke hw,fun _=>mh hw⟩
   obtain⟨v,hv,lU⟩:=h5 k j cs a hk hj
   exact⟨v,by rw[cell_setRow_same w B.b _ cur cur' T _ hblk,h1];exact hv,hr _ _ lU⟩
  ·rename_i e
   obtain⟨C,hC,RC,k1,k2⟩:=S.row i q h
   refine⟨C,hC,RC.frame (setRow_other w B.b C.b cur' (fun Nx=>e ?_)) hr,k1,k2⟩
   exact(S.inj id i r q B C hid h hw hB hC Nx.symm).symm
 ·unfold bR at h h'
  have get:∀j p,(if j=id then some r' else g j)=some p->∃p0,g j=some p0/\(p.w=true->p0.w=true):=fun j p hp=>by
   split at hp
   ·rename_i e;subst e;injection hp with hp;subst hp;exact⟨r,hid,fun _=>hw⟩
   ·exact⟨p,hp,fun h=>h⟩
  obtain⟨p,hp,QH⟩:=get _ _ h
  obtain⟨p',Pc,_⟩:=get _ _ h'
  exact S.inj i i' p p' C C' hp Pc (QH R3) hC DQ he
theorem gy.rename (S:gy P hs D ι g w) {i:Id} {r:Row} {B:sU} (hi:g i=some r) (hw:r.w=true) (hB:ι i=some B) (hn:ι id=none):gy P hs D (kC ι id B) (bR (cq g i) id r) w:=by
 have S':=S.stay (w':=w) (D':=D) (ι':=kC ι id B) (fun _ _=>rfl) (Nat.le_refl _) (fun _ h=>h) S.dead (fun _ h=>.inl h) (fU hn)
 have il:i≠id:=by rintro rfl;rw[hn]at hB;cases hB
 obtain⟨B1,AR,R,k1,k2⟩:=S'.row i r hi
 rw[gp il,hB]at AR;injection AR with AR;subst AR
 have get:∀j p,bR (cq g i) id r j=some p->(j=id/\p=r)∨(j≠id/\j≠i/\g j=some p):=fun j p hp=>by
  unfold bR cq at hp
  split at hp
  ·rename_i e;injection hp with hp;exact .inl ⟨e,hp.symm⟩
  ·rename_i e
   split at hp
   ·cases hp
   ·rename_i e';exact .inr ⟨e,e',hp⟩
 refine⟨S.lo,S.dead,fun j p h=>?_,fun j j' p p' C C' h h' QH hC DQ he=>?_⟩
 ·rcases get j p h with⟨rfl,rfl⟩|⟨_,_,hp⟩
  ·exact⟨B,eA _ _ _,R,k1,k2⟩
  ·exact S'.row j p hp
 ·rcases get j p h with⟨rfl,rfl⟩|⟨q1,q2,hp⟩
  ·rcases get j' p' h' with⟨rfl,rfl⟩|⟨q1',q2',Pc⟩
   ·rfl
   ·exfalso
    rw[eA]at hC;injection hC with hC;subst hC
    rw[gp q1']at DQ
    exact q2' (S.inj i j' p p' B C' hi Pc hw hB DQ he).symm
  ·rcases get j' p' h' with⟨rfl,rfl⟩|⟨q1',q2',Pc⟩
   ·exfalso
    rw[eA]at DQ;injection DQ with DQ;subst DQ
    rw[gp q1]at hC
    exact q2 (S.inj j i p p' C B hp hi QH hC hB he)
   ·rw[gp q1]at hC
    rw[gp q1']at DQ
    exact S.inj j j' p p' C C' hp Pc QH hC DQ he
def De (P:Program) (hs:Nat) (a:Act) (o:Oper) (w:World) (D:Nat->Prop) (ι:Names) (id:Id) (v:AV) (g':Rows):Prop:=
 ∃u w' ι',((execOp a.eval o).run P w=.ok (.value u) w'∨(execOp a.eval o).run P w=.ok .skip w'/\u=undef)/\Step hs D ι w D ι' w'/\gy P hs D ι' g' w'/\dh P w' D ι' v u/\∀i,i≠id->ι' i=ι i
theorem CE {xs:List AV} {vs:Array Value} (h:fo P w D ι xs vs) (hf:∀a∈xs,a.cell=true):∀v∈vs.toList,v.oneCell'=true:=by
 intro v hv
 obtain⟨j,hj,rfl⟩:=List.getElem_of_mem hv
 have K6:j<xs.length:=by rw[<-h.1];simpa using hj
 obtain⟨u,hu,hr⟩:=h.2 j _ (List.getElem?_eq_getElem K6)
 have hc:=hr.Bs (hf _ (List.getElem_mem K6))
 have:vs.toList[j]=u:=by
  have:vs.toList[j]? =some u:=by simpa using hu
  rw[List.getElem?_eq_getElem hj]at this;injection this
 rw[this]
 cases u<;>simp_all [Value.oneCell']
theorem jT {i j n m:Nat} (h:i<n) (hj:j<m):i*m+j<n*m:=by
 have:(i+1)*m<=n*m:=Nat.mul_le_mul_right _ h
 rw[Nat.add_mul,Nat.one_mul]at this;omega
theorem kV.cur {B:sU} {r:Row} (R:kV P w D ι B r):∃cur T,w.heap[B.b]? =some (.cells cur T (0,0))/\cur.size=B.C/\∀i j cs a,r.rows[i]? =some cs->cs[j]? =some a->∃v,cur[i*r.sz+j]? =some v/\dh P w D ι a v:=by
 obtain⟨cur,T,h1,h2⟩:=R.ye
 refine⟨cur,T,h1,h2,fun i j cs a hi hj=>?_⟩
 obtain⟨v,hv,hr⟩:=R.at_ i j cs a hi hj
 exact⟨v,by simpa[World.cell?,h1]using hv,hr⟩
theorem LC {t:TypeId} {n:Nat} {x y:Operand} {x' y':O} {g':Rows} (S:gy P hs D ι g w) (E:cC P w D ι env a) (ho:o.op=.store t x y) (hn:ep P t=some n) (hx:cO P x=some x') (hy:cO P y=some y')
  (hv:bQ g n (dc env y') (dc env x')=some g'):De P hs a o w D ι id .undef g':=by
 have rx:=dp E hx
 have ry:=dp E hy
 unfold bQ at hv
 split at hv
 ·rename_i i k off hp
  rw[hp]at rx
  simp only[Option.bind_eq_some_iff]at hv
  obtain⟨r,hg,cs,dw,hv⟩:=hv
  split at hv
  ·rename_i hc
   obtain⟨c1,c2,c3,c4⟩:=hc
   simp at hv;subst hv
   obtain⟨B,he,hB,hk⟩:=iU rx
   obtain⟨B',dH,R,ke,mh⟩:=S.row i r hg
   rw[hB]at dH;injection dH with dH;subst dH
   replace R:=R.row hk
   obtain⟨cur,T,hblk,hC,wb⟩:=R.cur
   have hL:=rj ry c3
   have h1:=CE hL (List.all_eq_true.1 c3)
   have Mb:(a.eval y).cells.size=n:=by rw[hL.1,c2]
   have jN:=(List.getElem?_eq_some_iff.1 dw).1
   have hlen:=R.len cs (List.mem_of_getElem? dw)
   have hbound:k*r.sz+r.sz<=r.rows.length*r.sz:=by
    have:(k+1)*r.sz<=r.rows.length*r.sz:=Nat.mul_le_mul_right _ jN
    rwa [Nat.add_mul,Nat.one_mul]at this
   have hf:=R.fits
   have dQ:=run_storeCells_at P B.b (k*B.sz+off) T (a.eval y).cells.toList 0 cur w hblk (by rw[R.sz];simp only[Array.length_toList];omega) h1
   simp only[Nat.add_zero,Array.length_toList]at dQ
   have rY:=S.put (r':={r with rows:=r.rows.set k (cI cs off (dc env y').cells)}) hg c1 hB hblk (cur':=(cur.toList.take (k*B.sz+off)++(a.eval y).cells.toList++cur.toList.drop (k*B.sz+off+(a.eval y).cells.size)).toArray)
    (by rw[R.sz];simp;omega) c1 rfl (by simpa using R.fits) (fun c Rw=>by
     rcases List.mem_or_eq_of_mem_set Rw with h|rfl
     ·exact R.len c h
     ·simp[cI];omega) (fun c Rw b hb=>by
     rcases List.mem_or_eq_of_mem_set Rw with h|rfl
     ·exact R.flat c h b hb
     ·unfold cI at hb
      rcases List.mem_append.1 hb with hb|hb
      ·rcases List.mem_append.1 hb with hb|hb
       ·exact R.flat cs (List.mem_of_getElem? dw) b (List.mem_of_mem_take hb)
       ·exact List.all_eq_true.1 c3 b hb
      ·exact R.flat cs (List.mem_of_getElem? dw) b (List.mem_of_mem_drop hb)) (fun i2 j c b yz hj=>by
     rw[R.sz]
     simp only[List.getElem?_toArray]
     by_cases yC:i2=k
     ·subst yC
      rw[List.getElem?_set_self jN]at yz
      injection yz with yz;subst yz
      unfold cI at hj
      by_cases hjo:j<off
      ·rw[List.append_assoc,List.getElem?_append_left (by simp;omega),List.getElem?_take,if_pos hjo]at hj
       rw[List.append_assoc,List.getElem?_append_left (by simp;omega),List.getElem?_take,if_pos (by omega)]
       simpa using wb _ _ _ _ dw hj
      ·by_cases iy:j<off+n
       ·rw[List.append_assoc,List.getElem?_append_right (by simp;omega),List.getElem?_append_left (by simp;omega)]at hj
        rw[List.append_assoc,List.getElem?_append_right (by simp;omega),List.getElem?_append_left (by simp;omega)]
        simp only[List.length_take]at hj ⊢
        rw[show j-min off cs.length=j-off by omega]at hj
        rw[show i2*r.sz+j-min (i2*r.sz+off) cur.toList.length=j-off by simp;omega]
        simpa using hL.2 _ _ hj
       ·rw[List.getElem?_append_right (by simp;omega)]at hj
        rw[List.getElem?_append_right (by simp;omega)]
        simp only[List.length_append,List.length_take,List.getElem?_drop,Array.length_toList]at hj ⊢
        rw[show off+(dc env y').cells.length+(j-(min off cs.length+(dc env y').cells.length))=j by omega]at hj
        rw[show i2*r.sz+off+(a.eval y).cells.size+(i2*r.sz+j-(min (i2*r.sz+off) cur.size+(a.eval y).cells.size))=i2*r.sz+j by omega]
        simpa using wb _ _ _ _ dw hj
     ·rw[List.getElem?_set_ne (fun e=>yC e.symm)]at yz
      have hi2l:=(List.getElem?_eq_some_iff.1 yz).1
      have gM:j<r.sz:=by rw[<-R.len c (List.mem_of_getElem? yz)];exact(List.getElem?_eq_some_iff.1 hj).1
      have:=wb _ _ _ _ yz hj
      rcases Nat.lt_or_gt_of_ne yC with dV|xL
      ·have h2:i2*r.sz+j<k*r.sz:=jT dV gM
       rw[List.append_assoc,List.getElem?_append_left (by simp;omega),List.getElem?_take,if_pos (by omega)]
       simpa using this
      ·have h2:k*r.sz+r.sz<=i2*r.sz:=by
        have:(k+1)*r.sz<=i2*r.sz:=Nat.mul_le_mul_right _ xL
        rwa [Nat.add_mul,Nat.one_mul]at this
       rw[List.getElem?_append_right (by simp;omega)]
       simp only[List.length_append,List.length_take,List.getElem?_drop,Array.length_toList]
       rw[show k*r.sz+off+(a.eval y).cells.size+(i2*r.sz+j-(min (k*r.sz+off) cur.size+(a.eval y).cells.size))=i2*r.sz+j by omega]
       simpa using this)
   refine⟨undef,_,ι,.inr ⟨?_,rfl⟩,rY.2,rY.1,dh.undef,fun _ _=>rfl⟩
   simp only[execOp,ho,he,Instr.storeAt,Instr.sureAddr,storeVar,Sem.run_bind,Sem.run_pure,Result.andThen_ok,run_sizeOf hn,Mb,ne_eq,not_true_eq_false,if_false,dQ]
  ·simp at hv
 ·simp at hv
end
end Go.Proofs.YtgoljkjaameagaaGreat.V

namespace Go.Proofs.YtgoljkjaameagaaGreat.V
open Go.RowKit
variable {P:Program} {w w':World} {D D':Nat->Prop} {ι ι':Names}
section
variable {g:Rows} {hs:Nat} {env:Env} {a:Act} {o:Oper} {id:Id} {v:AV}
theorem so (S:gy P hs D ι g w) {y:AV} {u:Value} {ys:List (List AV)} {sz:Nat} (hr:dh P w D ι y u) (hy:bp g y=some ys) (hl:∀c∈ys,c.length=sz) (hf:∀c∈ys,∀b∈c,b.cell=true):
  ∃A c,u=.slice A ys.length c/\(ys=[]∨∃b o,∃news:List Value,A=some ⟨b,o,none⟩/\news.length=ys.length*sz/\(∀j v,news[j]? =some v->w.cell? ⟨b,o+j,none⟩=some v)/\fo P w D ι ys.flatten news.toArray/\∀v∈news,v.oneCell'=true):=by
 have fin:∀b o,ys≠[]->(∀i j cs x,ys[i]? =some cs->cs[j]? =some x->∃v,w.cell? ⟨b,o+(i*sz+j),none⟩=some v/\dh P w D ι x v)->
   ∃news:List Value,news.length=ys.length*sz/\(∀j v,news[j]? =some v->w.cell? ⟨b,o+j,none⟩=some v)/\fo P w D ι ys.flatten news.toArray/\∀v∈news,v.oneCell'=true:=by
  intro b o _ h
  have hlen:=Jb hl
  have at_:∀k,k<ys.length*sz->∃x,ys.flatten[k]? =some x/\∃v,w.cell? ⟨b,o+k,none⟩=some v/\dh P w D ι x v:=by
   intro k hk
   have lJ:0<sz:=by
    rcases Nat.eq_zero_or_pos sz with h0|h0
    ·subst h0;simp at hk
    ·exact h0
   have hi:k / sz<ys.length:=Nat.div_lt_of_lt_mul (by rw[Nat.mul_comm];exact hk)
   have hj:k % sz<sz:=Nat.mod_lt _ lJ
   have dw:=List.getElem?_eq_getElem hi
   have gM:k % sz<ys[k / sz].length:=by rw[hl _ (List.getElem_mem hi)];exact hj
   have hx:=List.getElem?_eq_getElem gM
   have e:k / sz*sz+k % sz=k:=by rw[Nat.mul_comm];exact Nat.div_add_mod _ _
   refine⟨_,by rw[<-flat_get hl dw hx,e],?_⟩
   obtain⟨v,hv,lU⟩:=h _ _ _ _ dw hx
   rw[e]at hv
   exact⟨v,hv,lU⟩
  let news:=(List.range (ys.length*sz)).map fun k=>(w.cell? ⟨b,o+k,none⟩).getD undef
  have hn:∀k,k<ys.length*sz->∀v,w.cell? ⟨b,o+k,none⟩=some v->news[k]? =some v:=fun k hk v hv=>by
   simp only[news,List.getElem?_map,List.getElem?_range hk,Option.map_some,hv,Option.getD_some]
  have hR:fo P w D ι ys.flatten news.toArray:=⟨by simp[news,hlen],fun j x hx=>by
   have gM:=(List.getElem?_eq_some_iff.1 hx).1
   rw[hlen]at gM
   obtain⟨x',tY,v,hv,lU⟩:=at_ j gM
   rw[hx]at tY;injection tY with tY;subst tY
   exact⟨v,by simpa using hn j gM v hv,lU⟩⟩
  refine⟨news,by simp[news],fun j v hj=>?_,hR,?_⟩
  ·have gM:j<ys.length*sz:=by have:=(List.getElem?_eq_some_iff.1 hj).1;simpa[news]using this
   obtain⟨x,_,v',oi,_⟩:=at_ j gM
   rw[hn j gM v' oi]at hj
   injection hj with hj
   rw[<-hj];exact oi
  ·have:=CE hR (fun x hx=>by
    obtain⟨c,hc,VE⟩:=List.mem_flatten.1 hx
    exact hf c hc x VE)
   simpa using this
 unfold bp at hy
 split at hy
 ·simp at hy;subst hy
  exact⟨none,0,iR hr,.inl rfl⟩
 ·rename_i rows
  simp at hy;subst hy
  obtain⟨A,c,he,_,_,h3⟩:=w6 hr
  refine⟨A,c,he,?_⟩
  rcases h3 with h3|⟨b,oo,sz',vs,rfl,hD,K8,_,hc,hi⟩
  ·exact .inl h3
  ·by_cases h0:rows=[]
   ·exact .inl h0
   ·have B4:sz'=sz:=by
     cases rows with
     |nil=>exact(h0 rfl).elim
     |cons c r=>rw[<-K8 c (by simp),hl c (by simp)]
    subst B4
    obtain⟨news,q1,q2,q3,q4⟩:=fin b oo h0 (fun i j cs x dw hx=>⟨_,hc i j (List.getElem?_eq_some_iff.1 dw).1 (by rw[<-K8 cs (List.mem_of_getElem? dw)];exact(List.getElem?_eq_some_iff.1 hx).1),.eS _ _ (hi i j cs x dw hx)⟩)
    exact .inr ⟨b,oo,news,rfl,q1,q2,q3,q4⟩
 ·rename_i i off len
  simp only[Option.bind_eq_some_iff]at hy
  obtain⟨r,hg,hy⟩:=hy
  split at hy
  ·rename_i hle
   simp at hy;subst hy
   obtain⟨oo,cap,B,he,hB,h1,h2,h3,h4,hk⟩:=iT hr
   obtain⟨B',dH,R,_,_⟩:=S.row i r hg
   rw[hB]at dH;injection dH with dH;subst dH
   replace R:=R.row hk
   have hlen:((r.rows.drop off).take len).length=len:=by simp;omega
   refine⟨some ⟨B.b,oo,none⟩,cap,by rw[hlen];exact he,?_⟩
   by_cases h0:(r.rows.drop off).take len=[]
   ·exact .inl h0
   ·have B4:r.sz=sz:=by
     cases hq:(r.rows.drop off).take len with
     |nil=>exact(h0 hq).elim
     |cons c q=>
      have hm:c∈(r.rows.drop off).take len:=by rw[hq];simp
      rw[<-hl c hm,R.len c (List.mem_of_mem_drop (List.mem_of_mem_take hm))]
    have hlp:0<len:=by rw[<-hlen];exact List.length_pos_iff.2 h0
    have C3:oo=off*B.sz:=by rcases h2 with h2|h2<;>omega
    obtain⟨news,q1,q2,q3,q4⟩:=fin B.b oo h0 (fun i2 j cs x dw hx=>by
     rw[List.getElem?_take]at dw
     split at dw
     ·rw[List.getElem?_drop]at dw
      obtain⟨v,hv,lU⟩:=R.at_ _ _ _ _ dw hx
      refine⟨v,?_,lU⟩
      rw[C3,R.sz,<-B4]
      rw[Nat.add_mul]at hv
      rw[<-Nat.add_assoc]
      exact hv
     ·simp at dw)
    exact .inr ⟨B.b,oo,news,rfl,q1,q2,q3,q4⟩
  ·simp at hy
 ·simp at hy
theorem ph {t ty e:TypeId} {i:TypeInfo} (ht:P.underlying t=some (.slice e)) (hi:P.info? e=some i) (A:Option Addr) (n c:Nat) (hn:n<=c) (B:Option Addr) (d:Nat):
  (Builtin.append_ #[t,t] ty #[.slice A n c,.slice B 0 d]).run P w=.ok (.slice A n c) w:=by
 have hf:(Builtin.firstCells i.size 0 (.slice B 0 d)).run P w=.ok #[] w:=by
  cases B<;>simp[Builtin.firstCells,loadCells,loadCellsFrom]
 cases A with
 |none=>simp[Builtin.append_,run_underlying ht,sizeOf,typeInfo,hi,Builtin.lenOf,hn,hf]
 |some A=>simp[Builtin.append_,run_underlying ht,sizeOf,typeInfo,hi,Builtin.lenOf,hn,hf,storeCells]
theorem xV {t ty e T:TypeId} {i:TypeInfo} (ht:P.underlying t=some (.slice e)) (hi:P.info? e=some i) (b su EM:Nat) (cur:Array Value) (hg:w.heap[b]? =some (.cells cur T (0,0)))
  (x:Addr) (m c:Nat) (news:List Value) (hl:news.length=m*i.size) (RT:∀j u,news[j]? =some u->w.cell? (x.add j)=some u) (h1:∀u∈news,u.oneCell'=true)
  (ga:su+m<=EM) (tf:su*i.size+news.length<=cur.size):
  (Builtin.append_ #[t,t] ty #[.slice (some ⟨b,0,none⟩) su EM,.slice (some x) m c]).run P w=
   .ok (.slice (some ⟨b,0,none⟩) (su+m) EM) (w.setRow b (cur.toList.take (su*i.size)++news++cur.toList.drop (su*i.size+news.length)).toArray):=by
 have hf:=run_firstCells_some (P:=P) w i.size m x m c news hl RT
 have dQ:=run_storeCells_at P b (su*i.size) T news 0 cur w hg (by simpa using tf) h1
 simp only[Nat.add_zero]at dQ
 simp[Builtin.append_,run_underlying ht,sizeOf,typeInfo,hi,Builtin.lenOf,ga,hf,ko,dQ]
theorem BP (w:World) (Ht Cz:Nat) (e:TypeId) (h:Ht<=dD):Ht<=grownCap w Ht Cz e/\grownCap w Ht Cz e<=maxLen:=by
 unfold dD at h
 simp only[grownCap,Question.cut,maxLen]
 have:=Nat.mod_lt (w.tape w.drawn (.appendCap Ht Cz e)) (show 0<2 ^ 63-Ht by omega)
 omega
theorem gi {x y:Operand} {t:TypeId} {u:Value} (ho:o.op=.call {callee:=.builtin .append,args:= #[x,y],argTypes:= #[t,t]}) (h:(Builtin.append_ #[t,t] o.type #[a.eval x,a.eval y]).run P w=.ok u w'):(execOp a.eval o).run P w=.ok (.value u) w':=by
 simp only[execOp,ho,resolve,Sem.run_bind,Sem.run_pure,Result.andThen_ok,invoke,builtin]
 simp only[List.map_toArray,List.map_cons,List.map_nil]
 rw[h];rfl
theorem CJ {T:TypeId} (S:gy P hs D ι g w) (cells:Array Value) (hn:ι id=none) (B:sU):Step hs D ι w D (kC ι id B) (w.drew.alloc (.cells cells T)):=
 Step.stay S (fun k hk=>by show(w.heap.push _)[k]? = _;rw[Array.getElem?_push,if_neg (by omega)]) (by show _<=(w.heap.push _).size;simp) rfl rfl rfl (fun _ h=>h) (fun _ h=>.inl h) (fU hn)
theorem I0 {x y:Operand} {x' y':O} {t e:TypeId} {m:Nat} {z:List K} {i:TypeInfo} {ys:List (List AV)} {g':Rows} (S:gy P hs D ι g w) (E:cC P w D ι env a) (hn:ι id=none) (ho:o.op=.call {callee:=.builtin .append,args:= #[x,y],argTypes:= #[t,t]})
  (ht:P.underlying t=some (.slice e)) (fh:ep P e=some (m+1)) (hz:jL P e=some z) (hi:P.info? e=some i) (hby:i.bytes<=32768) (hx:cO P x=some x') (hy:cO P y=some y') (Dc:bp g (dc env y')=some ys)
  (hv:aW g id (m+1) (dc env x') ys=some (v,g')):De P hs a o w D ι id v g':=by
 have rx:=dp E hx
 have ry:=dp E hy
 obtain⟨it,zv,rq,qm,QQ,hm,FP⟩:=jZ hz
 rw[hi]at rq;injection rq with rq;subst rq
 have jF:i.size=m+1:=by simpa[ep,hi]using fh
 have fits:∀n,n<=dD->n*i.bytes<=140737488355328:=fun n h=>by
  unfold dD at h
  have:=Nat.mul_le_mul h hby
  omega
 have e63:∀n,n<=dD->(n:Int)<=9223372036854775807:=fun n h=>by unfold dD at h;omega
 have same:∀(w1:World) (cells:Array Value),w1=w.drew.alloc (.cells cells e)->w1.heap=w.heap.push (.cells cells e (0,0)):=fun w1 cells h=>by subst h;rfl
 have Q2:∀l:List (List AV),(l.all fun c=>c.length==m+1&&c.all AV.cell)=true->(∀c∈l,c.length=m+1)/\∀c∈l,∀b∈c,b.cell=true:=fun l h=>by
  rw[List.all_eq_true]at h
  refine⟨fun c hc=>?_,fun c hc b hb=>?_⟩
  ·have:=h c hc;simp at this;exact this.1
  ·have:=h c hc;simp at this;exact this.2 b hb
 unfold aW at hv
 split at hv
 ·rename_i hb
  rw[hb]at rx
  have ex:=iR rx
  split at hv
  ·simp at hv
   obtain⟨rfl,rfl⟩:=hv
   obtain⟨A,c,ey,_⟩:=so (sz:=m+1) S ry Dc (fun c h=>by cases h) (fun c h=>by cases h)
   refine⟨_,w,ι,.inl (gi ho (by rw[ex,ey];exact ph ht hi none 0 0 (Nat.le_refl _) A c)),Step.refl _ _ _ _,S,.eS _ _ .cu,fun _ _=>rfl⟩
  ·rename_i y0 yr
   split at hv
   ·rename_i hc
    simp only[Option.some.injEq,Prod.mk.injEq]at hv
    obtain⟨rfl,rfl⟩:=hv
    obtain⟨hl,hf⟩:=Q2 _ hc.2
    obtain⟨A,c,ey,h2⟩:=so (sz:=m+1) S ry Dc hl hf
    rcases h2 with h2|⟨b,oo,news,rfl,q1,q2,q3,q4⟩
    ·cases h2
    have gD:=run_append_nil (P:=P) w t o.type e i zv ht hi qm ⟨b,oo,none⟩ (y0::yr).length c news (by rw[jF];exact q1) (fun j v hj=>by rw[ko];exact q2 j v hj) (by simp) (e63 _ hc.1) (by have:=fits _ hc.1;omega)
    obtain⟨g1,g2⟩:=BP w (y0::yr).length 0 e hc.1
    have dw:(news.toArray++Builtin.zeroCells zv.cells (grownCap w (y0::yr).length 0 e-(y0::yr).length)).size=grownCap w (y0::yr).length 0 e*(m+1):=by
     rw[Array.size_append,size_zeroCells,QQ,jF]
     simp only[List.size_toArray,q1]
     rw[<-Nat.add_mul];congr 1;omega
    have S1:=S.alloc (w':=w.drew.alloc (.cells (news.toArray++Builtin.zeroCells zv.cells (grownCap w (y0::yr).length 0 e-(y0::yr).length)) e)) (r:=⟨true,m+1,y0::yr⟩) rfl hn rfl (by rw[dw];exact Nat.mul_le_mul_right _ g1) hl hf
     (fun k j cs b2 hk hj=>by
      obtain⟨u,hu,xO⟩:=q3.2 _ _ (flat_get hl hk hj)
      refine⟨u,?_,xO⟩
      have dV:=(Array.getElem?_eq_some_iff.1 hu).1
      dsimp only
      rw[Array.getElem?_append_left dV];exact hu)
    have dQ:=CJ (T:=e) S (news.toArray++Builtin.zeroCells zv.cells (grownCap w (y0::yr).length 0 e-(y0::yr).length)) hn ⟨w.heap.size,m+1,(news.toArray++Builtin.zeroCells zv.cells (grownCap w (y0::yr).length 0 e-(y0::yr).length)).size,none⟩
    refine⟨_,_,_,.inl (gi ho (by rw[ex,ey];exact gD)),dQ,S1,?_,fun _ h=>gp h⟩
    refine .own _ _ _ _ _ _ (eA _ _ _) rfl g1 (.inr (by simp)) ?_ g2
    dsimp only;rw[dw];simp
   ·simp at hv
 ·rename_i i0 len hb
  rw[hb]at rx
  simp only[Option.bind_eq_some_iff]at hv
  obtain⟨r,hg,hv⟩:=hv
  split at hv
  ·rename_i hc
   obtain⟨c1,c2,c3,c4,c5⟩:=hc
   simp only[Option.some.injEq,Prod.mk.injEq]at hv
   obtain⟨rfl,rfl⟩:=hv
   obtain⟨hl,hf⟩:=Q2 _ c5
   obtain⟨A,c,ey,h2⟩:=so (sz:=m+1) S ry Dc hl hf
   obtain⟨oo,cap,B,ex,hB,h1,C3,h3,h4,hk⟩:=iT rx
   obtain⟨B',dH,R,ke,mh⟩:=S.row _ _ hg
   rw[hB]at dH;injection dH with dH;subst dH
   replace R:=R.row hk
   have Jh:B.sz=m+1:=R.sz.trans c2
   have zY:∀cs∈r.rows++ys,cs.length=m+1:=fun cs dw=>by
    rcases List.mem_append.1 dw with h|h
    ·rw[<-c2];exact R.len cs h
    ·exact hl cs h
   have Nu:∀cs∈r.rows++ys,∀b∈cs,b.cell=true:=fun cs dw=>by
    rcases List.mem_append.1 dw with h|h
    ·exact R.flat cs h
    ·exact hf cs h
   rcases h2 with rfl|⟨yb,yo,news,rfl,q1,q2,q3,q4⟩
   ·have G4:=S.rename hg c1 hB hn
    refine⟨_,w,kC ι id B,.inl (gi ho (by rw[ex,ey];exact ph ht hi _ _ _ h1 A c)),⟨Below.refl _ _,fun _ _=>rfl,fun _ h=>h,fU hn,fun _ h=>.inl h⟩,?_,?_,fun _ h=>gp h⟩
    ·have:(⟨true,m+1,r.rows++[]⟩:Row)=r:=by cases r;simp_all
     rw[this];exact G4
    ·simp only[List.length_nil,Nat.add_zero]
     exact .own _ _ _ _ _ B (eA _ _ _) hk h1 C3 h3 h4
   ·obtain⟨cur,T,hblk,hC,wb⟩:=R.cur
    by_cases ga:len+ys.length<=cap
    ·have RY:ys≠[]->oo=0:=fun h=>by
      rcases C3 with C3|C3
      ·have:=List.length_pos_iff.2 h;omega
      ·simpa using C3
     by_cases hy0:ys=[]
     ·subst hy0
      have G4:=S.rename hg c1 hB hn
      refine⟨_,w,kC ι id B,.inl (gi ho (by rw[ex,ey];exact ph ht hi _ _ _ h1 _ c)),⟨Below.refl _ _,fun _ _=>rfl,fun _ h=>h,fU hn,fun _ h=>.inl h⟩,?_,?_,fun _ h=>gp h⟩
      ·have:(⟨true,m+1,r.rows++[]⟩:Row)=r:=by cases r;simp_all
       rw[this];exact G4
      ·simp only[List.length_nil,Nat.add_zero]
       exact .own _ _ _ _ _ B (eA _ _ _) hk h1 C3 h3 h4
     have ho0:=RY hy0
     subst ho0
     have tf:len*i.size+news.length<=cur.size:=by
      rw[jF,q1,hC,<-Nat.add_mul]
      refine Nat.le_trans ?_ h3
      rw[Jh,Nat.zero_add]
      exact Nat.mul_le_mul_right _ ga
     have gD:=xV (ty:=o.type) ht hi B.b len cap cur hblk ⟨yb,yo,none⟩ ys.length c news (by rw[jF];exact q1) (fun j v hj=>by rw[ko];exact q2 j v hj) q4 ga tf
     have og:cur.toList.length=cur.size:=Array.length_toList
     simp only[jF]at gD tf
     obtain⟨P1,P2⟩:=S.put (r':=⟨true,m+1,r.rows++ys⟩) hg c1 hB hblk (cur':=(cur.toList.take (len*(m+1))++news++cur.toList.drop (len*(m+1)+news.length)).toArray) (by simp only[List.size_toArray,List.length_append,List.length_take,List.length_drop,og];omega) rfl c2.symm
      (by dsimp only;rw[List.length_append,<-c3,<-Jh];refine Nat.le_trans (Nat.mul_le_mul_right _ ga) (Nat.le_trans (by simp) h3)) zY Nu (fun k j cs b2 hk hj=>by
       simp only[List.getElem?_toArray]
       have gM:j<m+1:=by rw[<-zY cs (List.mem_of_getElem? hk)];exact(List.getElem?_eq_some_iff.1 hj).1
       rw[c2]
       by_cases jN:k<r.rows.length
       ·rw[List.getElem?_append_left jN]at hk
        have h2:k*(m+1)+j<len*(m+1):=jT (by omega) gM
        rw[List.append_assoc,List.getElem?_append_left (by simp only[List.length_take,og];omega),List.getElem?_take,if_pos h2]
        have:=wb k j cs b2 hk hj
        rw[c2]at this;simpa using this
       ·rw[List.getElem?_append_right (by omega)]at hk
        have tg:=(List.getElem?_eq_some_iff.1 hk).1
        have qO:len*(m+1)<=k*(m+1):=Nat.mul_le_mul_right _ (by omega)
        have qQ:k*(m+1)+j-len*(m+1)=(k-r.rows.length)*(m+1)+j:=by
         rw[<-c3,Nat.sub_mul];omega
        obtain⟨u,hu,xO⟩:=q3.2 _ _ (flat_get hl hk hj)
        refine⟨u,?_,xO⟩
        have FM:news[(k-r.rows.length)*(m+1)+j]? =some u:=by simpa using hu
        have dV:=(List.getElem?_eq_some_iff.1 FM).1
        rw[List.append_assoc,List.getElem?_append_right (by simp only[List.length_take,og];omega),List.getElem?_append_left (by simp only[List.length_take,og];omega)]
        rw[<-FM]
        congr 1
        simp only[List.length_take,og]
        omega)
     have dW:bR (cq (bR g i0 ⟨true,m+1,r.rows++ys⟩) i0) id ⟨true,m+1,r.rows++ys⟩=bR (cq g i0) id ⟨true,m+1,r.rows++ys⟩:=by
      funext q;simp only[bR,cq]
      by_cases h:q=id<;>by_cases h':q=i0<;>simp[h,h']
     have G4:=P1.rename (i:=i0) (id:=id) (r:=⟨true,m+1,r.rows++ys⟩) (by simp[bR]) rfl hB hn
     rw[dW]at G4
     refine⟨_,_,_,.inl (gi ho (by rw[ex,ey];exact gD)),P2.trans ⟨Below.refl _ _,fun _ _=>rfl,fun _ h=>h,fU hn,fun _ h=>.inl h⟩,G4,?_,fun _ h=>gp h⟩
     exact .own _ _ _ _ _ B (eA _ _ _) hk ga (.inr (by simp)) h3 h4
    ·
     have holds:∃uF:List Value,uF.length=len*(m+1)/\(∀j v,uF[j]? =some v->w.cell? ⟨B.b,oo+j,none⟩=some v)/\fo P w D ι r.rows.flatten uF.toArray:=by
      obtain⟨A2,c2',e2,h2⟩:=so (sz:=m+1) (u:=.slice (some ⟨B.b,oo,none⟩) len cap) S (.own i0 0 len oo cap B hB hk h1 C3 h3 h4) (ys:=r.rows) (by simp[bp,hg,c3]) (fun cs h=>by rw[<-c2];exact R.len cs h) R.flat
      rcases h2 with h2|⟨b2,o2,uF,rfl,p1,p2,p3,_⟩
      ·refine⟨[],by simp[c3,h2],fun j v h=>by simp at h,by rw[h2];exact⟨rfl,fun j a h=>by simp at h⟩⟩
      ·injection e2 with e2 _ _
       injection e2 with e2
       injection e2 with e21 e22 _
       subst e21;subst e22
       exact⟨uF,by rw[p1,c3],p2,p3⟩
     obtain⟨uF,p1,p2,p3⟩:=holds
     have gD:=run_append_grow (P:=P) w t o.type e i zv ht hi qm ⟨B.b,oo,none⟩ len cap uF (by rw[jF];exact p1) (fun j v hj=>by rw[ko];exact p2 j v hj) ⟨yb,yo,none⟩ ys.length c news (by rw[jF];exact q1) (fun j v hj=>by rw[ko];exact q2 j v hj) (by omega) (e63 _ c4) (growslice_fits (by omega) (fits _ c4))
     obtain⟨g1,g2⟩:=BP w (len+ys.length) cap e c4
     have dw:(uF.toArray++news.toArray++Builtin.zeroCells zv.cells (grownCap w (len+ys.length) cap e-(len+ys.length))).size=grownCap w (len+ys.length) cap e*(m+1):=by
      rw[Array.size_append,Array.size_append,size_zeroCells,QQ,jF]
      simp only[List.size_toArray,q1,p1]
      rw[<-Nat.add_mul,<-Nat.add_mul];congr 1;omega
     have S1:=(S.kill i0).alloc (id:=id) (w':=w.drew.alloc (.cells (uF.toArray++news.toArray++Builtin.zeroCells zv.cells (grownCap w (len+ys.length) cap e-(len+ys.length))) e)) (r:=⟨true,m+1,r.rows++ys⟩) rfl hn rfl (by dsimp only;rw[dw,List.length_append,<-c3];exact Nat.mul_le_mul_right _ g1) zY Nu
      (fun k j cs b2 hk hj=>by
       have G0:=flat_get zY hk hj
       rw[List.flatten_append]at G0
       have hol:uF.length=r.rows.flatten.length:=by have:=p3.1;simpa using this
       dsimp only
       by_cases dV:k*(m+1)+j<r.rows.flatten.length
       ·rw[List.getElem?_append_left dV]at G0
        obtain⟨u,hu,xO⟩:=p3.2 _ _ G0
        refine⟨u,?_,xO⟩
        rw[Array.getElem?_append_left (by simp;omega),Array.getElem?_append_left (by simp;omega)];exact hu
       ·rw[List.getElem?_append_right (by omega)]at G0
        obtain⟨u,hu,xO⟩:=q3.2 _ _ G0
        refine⟨u,?_,xO⟩
        have BV:=(Array.getElem?_eq_some_iff.1 hu).1
        simp only[List.size_toArray]at BV
        rw[Array.getElem?_append_left (by simp;omega),Array.getElem?_append_right (by simp;omega)]
        simp only[List.size_toArray,hol];exact hu)
     have dQ:=CJ (T:=e) S (uF.toArray++news.toArray++Builtin.zeroCells zv.cells (grownCap w (len+ys.length) cap e-(len+ys.length))) hn ⟨w.heap.size,m+1,(uF.toArray++news.toArray++Builtin.zeroCells zv.cells (grownCap w (len+ys.length) cap e-(len+ys.length))).size,none⟩
     refine⟨_,_,_,.inl (gi ho (by rw[ex,ey];exact gD)),dQ,S1,?_,fun _ h=>gp h⟩
     refine .own _ _ _ _ _ _ (eA _ _ _) rfl g1 (.inr (by simp)) ?_ g2
     dsimp only;rw[dw];simp
  ·simp at hv
 ·simp at hv
theorem lu {x:Operand} {t:TypeId} {u:Value} (ho:o.op=.call {callee:=.builtin .clear,args:= #[x],argTypes:= #[t]}) (h:(Builtin.clear_ #[t] o.type #[a.eval x]).run P w=.ok u w'):(execOp a.eval o).run P w=.ok (.value u) w':=by
 simp only[execOp,ho,resolve,Sem.run_bind,Sem.run_pure,Result.andThen_ok,invoke,builtin]
 simp only[List.map_toArray,List.map_cons,List.map_nil]
 rw[h];rfl
theorem LB {x:Operand} {x':O} {t e:TypeId} {m:Nat} {z:List K} {g':Rows} (S:gy P hs D ι g w) (E:cC P w D ι env a) (ho:o.op=.call {callee:=.builtin .clear,args:= #[x],argTypes:= #[t]})
  (ht:P.underlying t=some (.slice e)) (fh:ep P e=some (m+1)) (hz:jL P e=some z) (hx:cO P x=some x') (hv:bJ g z (dc env x')=some g'):De P hs a o w D ι id .undef g':=by
 have rx:=dp E hx
 obtain⟨it,zv,hi,qm,QQ,hm,FP⟩:=jZ hz
 have jF:it.size=m+1:=by simpa[ep,hi]using fh
 unfold bJ at hv
 split at hv
 ·rename_i hb
  rw[hb]at rx
  simp at hv;subst hv
  refine⟨undef,w,ι,.inl (lu ho (by rw[iR rx];simp only[Builtin.clear_,Sem.run_bind];simp[run_underlying ht,undef])),Step.refl _ _ _ _,S,dh.undef,fun _ _=>rfl⟩
 ·rename_i i off len hb
  rw[hb]at rx
  simp only[Option.bind_eq_some_iff]at hv
  obtain⟨r,hg,hv⟩:=hv
  split at hv
  ·rename_i hc
   obtain⟨c1,c2,c3⟩:=hc
   simp only[Option.some.injEq]at hv;subst hv
   obtain⟨oo,cap,B,ex,hB,h1,h2,h3,h4,hk⟩:=iT rx
   obtain⟨B',dH,R,ke,mh⟩:=S.row _ _ hg
   rw[hB]at dH;injection dH with dH;subst dH
   replace R:=R.row hk
   obtain⟨cur,T,hblk,hC,wb⟩:=R.cur
   by_cases h0:len=0
   ·subst h0
    have e1:({r with rows:=r.rows.take off++List.replicate 0 (z.map K.av)++r.rows.drop (off+0)}:Row)=r:=by cases r;simp
    rw[e1]
    have e2:bR g i r=g:=by
     funext q;unfold bR;split
     ·rename_i h;rw[h,hg]
     ·rfl
    rw[e2]
    refine⟨undef,w,ι,.inl (lu ho (by rw[ex];simp only[Builtin.clear_,Sem.run_bind];simp[run_underlying ht,undef])),Step.refl _ _ _ _,S,dh.undef,fun _ _=>rfl⟩
   ·have C9:oo=off*B.sz:=by rcases h2 with h2|h2<;>omega
    have Jh:B.sz=m+1:=by rw[R.sz,c2,FP,jF]
    have yI:r.sz=m+1:=by rw[<-R.sz,Jh]
    have Si:zv.cells.size=m+1:=by rw[QQ,jF]
    have xz:(Builtin.zeroCells zv.cells len).toList.length=len*(m+1):=by rw[Array.length_toList,size_zeroCells,Si]
    have Sh:∀k,k<len*(m+1)->∃c,z[k % z.length]? =some c/\(Builtin.zeroCells zv.cells len).toList[k]? =some c.val:=fun k hk=>by
     obtain⟨c,p9,DT⟩:=pr (n:=len*zv.cells.size) hm (by rw[FP,jF];omega) k (by rw[Si];exact hk)
     exact⟨c,p9,by rw[Array.getElem?_toList];exact DT⟩
    have hbound:(off+len)*(m+1)<=r.rows.length*(m+1):=Nat.mul_le_mul_right _ c3
    have BU:=R.fits
    rw[yI]at BU
    have UZ:(off+len)*(m+1)=off*(m+1)+len*(m+1):=Nat.add_mul _ _ _
    have dQ:=run_storeCells_at P B.b oo T (Builtin.zeroCells zv.cells len).toList 0 cur w hblk (by rw[xz,hC,C9,Jh];omega) (by
     intro v hv
     obtain⟨k,hk,rfl⟩:=List.getElem_of_mem hv
     obtain⟨c,_,DT⟩:=Sh k (by rw[<-xz];exact hk)
     rw[List.getElem?_eq_getElem hk]at DT
     injection DT with DT
     rw[DT];cases c<;>rfl)
    simp only[Nat.add_zero]at dQ
    have og:cur.toList.length=cur.size:=Array.length_toList
    obtain⟨P1,P2⟩:=S.put (r':={r with rows:=r.rows.take off++List.replicate len (z.map K.av)++r.rows.drop (off+len)}) hg c1 hB hblk (cur':=(cur.toList.take oo++(Builtin.zeroCells zv.cells len).toList++cur.toList.drop (oo+(Builtin.zeroCells zv.cells len).toList.length)).toArray)
     (by simp only[List.size_toArray,List.length_append,List.length_take,List.length_drop,og,xz];rw[C9,Jh];omega) c1 rfl (by
      have:(r.rows.take off++List.replicate len (z.map K.av)++r.rows.drop (off+len)).length=r.rows.length:=by simp;omega
      dsimp only;rw[this];exact R.fits) (fun cs dw=>by
      rcases List.mem_append.1 dw with h|h
      ·rcases List.mem_append.1 h with h|h
       ·exact R.len cs (List.mem_of_mem_take h)
       ·rw[List.eq_of_mem_replicate h];simp[c2]
      ·exact R.len cs (List.mem_of_mem_drop h)) (fun cs dw b hb=>by
      rcases List.mem_append.1 dw with h|h
      ·rcases List.mem_append.1 h with h|h
       ·exact R.flat cs (List.mem_of_mem_take h) b hb
       ·rw[List.eq_of_mem_replicate h]at hb
        obtain⟨c,_,rfl⟩:=List.mem_map.1 hb;exact c.mZ
      ·exact R.flat cs (List.mem_of_mem_drop h) b hb) (fun k j cs b hk hj=>by
      simp only[List.getElem?_toArray]
      rw[yI]
      rw[C9,Jh,xz]
      by_cases qb:k<off
      ·rw[List.append_assoc,List.getElem?_append_left (by simp;omega),List.getElem?_take,if_pos qb]at hk
       have gM:j<m+1:=by rw[<-yI,<-R.len cs (List.mem_of_getElem? hk)];exact(List.getElem?_eq_some_iff.1 hj).1
       have h2:=jT qb gM
       rw[List.append_assoc,List.getElem?_append_left (by simp only[List.length_take,og];omega),List.getElem?_take,if_pos h2]
       have:=wb k j cs b hk hj
       rw[yI]at this;simpa using this
      ·by_cases tg:k<off+len
       ·rw[List.append_assoc,List.getElem?_append_right (by simp;omega),List.getElem?_append_left (by simp;omega)]at hk
        have ia:=List.eq_of_mem_replicate (List.mem_of_getElem? hk)
        subst ia
        simp only[List.getElem?_map,Option.map_eq_some_iff]at hj
        obtain⟨q,hq,rfl⟩:=hj
        have gM:=(List.getElem?_eq_some_iff.1 hq).1
        rw[FP,jF]at gM
        have qO:off*(m+1)<=k*(m+1):=Nat.mul_le_mul_right _ (by omega)
        have qQ:k*(m+1)+j-off*(m+1)=(k-off)*(m+1)+j:=by rw[Nat.sub_mul];omega
        have BV:(k-off)*(m+1)+j<len*(m+1):=jT (by omega) gM
        rw[List.append_assoc,List.getElem?_append_right (by simp only[List.length_take,og];omega),List.getElem?_append_left (by simp only[List.length_take,og,xz];omega)]
        obtain⟨c,p9,DT⟩:=Sh _ BV
        rw[FP,jF,Nat.mul_comm (k-off),Nat.mul_add_mod,Nat.mod_eq_of_lt gM,hq]at p9
        injection p9 with p9;subst p9
        refine⟨q.val,?_,wZ q⟩
        rw[<-DT]
        congr 1
        simp only[List.length_take,og];omega
       ·rw[List.getElem?_append_right (by simp;omega)]at hk
        simp only[List.length_append,List.length_take,List.length_replicate,List.getElem?_drop]at hk
        rw[show off+len+(k-(min off r.rows.length+len))=k by omega]at hk
        have jN:=(List.getElem?_eq_some_iff.1 hk).1
        have qO:(off+len)*(m+1)<=k*(m+1):=Nat.mul_le_mul_right _ (by omega)
        rw[List.getElem?_append_right (by simp only[List.length_append,List.length_take,og,xz];omega)]
        simp only[List.length_append,List.length_take,og,xz,List.getElem?_drop]
        rw[show off*(m+1)+len*(m+1)+(k*(m+1)+j-(min (off*(m+1)) cur.size+len*(m+1)))=k*(m+1)+j by omega]
        have:=wb k j cs b hk hj
        rw[yI]at this;simpa using this)
    refine⟨undef,_,ι,.inl (lu ho ?_),P2,P1,dh.undef,fun _ _=>rfl⟩
    rw[ex]
    cases len with
    |zero=>exact(h0 rfl).elim
    |succ len=>
     simp only[Builtin.clear_,Sem.run_bind]
     simp[run_underlying ht,zeroValue,typeInfo,hi,qm,dQ,undef]
  ·simp at hv
 ·simp at hv
theorem HF {dT sT ty e:TypeId} {it:TypeInfo} (hu:P.underlying dT=some (.slice e)) (hi:P.info? e=some it) (A B:Option Addr) (su EM GD Om:Nat) (h0:Nat.min su GD=0):
  (Builtin.copy_ #[dT,sT] ty #[.slice A GD Om,.slice B su EM]).run P w=.ok (goInt 0) w:=by
 cases A<;>cases B<;>simp[Builtin.copy_,run_underlying hu,Builtin.lenOf,Builtin.firstCells,sizeOf,typeInfo,hi,h0,storeCells,loadCells,loadCellsFrom]
theorem HG {dT sT ty e:TypeId} {it:TypeInfo} (hu:P.underlying dT=some (.slice e)) (hi:P.info? e=some it) (A B:Addr) (su EM GD Om:Nat) (cs:List Value) (hn:cs.length=Nat.min su GD*it.size) (hl:(loadCells B cs.length).run P w=.ok cs.toArray w) (hs:(storeCells A cs).run P w=.ok () w'):
  (Builtin.copy_ #[dT,sT] ty #[.slice (some A) GD Om,.slice (some B) su EM]).run P w=.ok (goInt (Nat.min su GD)) w':=by
 simp[Builtin.copy_,run_underlying hu,Builtin.lenOf,Builtin.firstCells,sizeOf,typeInfo,hi,<-hn,hl,hs]
theorem qp {x y:Operand} {t t2:TypeId} {u:Value} (ho:o.op=.call {callee:=.builtin .copy,args:= #[x,y],argTypes:= #[t,t2]}) (h:(Builtin.copy_ #[t,t2] o.type #[a.eval x,a.eval y]).run P w=.ok u w'):(execOp a.eval o).run P w=.ok (.value u) w':=by
 simp only[execOp,ho,resolve,Sem.run_bind,Sem.run_pure,Result.andThen_ok,invoke,builtin]
 simp only[List.map_toArray,List.map_cons,List.map_nil]
 rw[h];rfl
theorem On {x y:Operand} {x' y':O} {t t2 e:TypeId} {m:Nat} {ys:List (List AV)} {v:AV} {g':Rows} (S:gy P hs D ι g w) (E:cC P w D ι env a) (ho:o.op=.call {callee:=.builtin .copy,args:= #[x,y],argTypes:= #[t,t2]})
  (ht:P.underlying t=some (.slice e)) (fh:ep P e=some (m+1)) (hx:cO P x=some x') (hy:cO P y=some y') (Dc:bp g (dc env y')=some ys) (hv:Gc g (m+1) (dc env x') ys=some (v,g')):De P hs a o w D ι id v g':=by
 have rx:=dp E hx
 have ry:=dp E hy
 obtain⟨it,hi,jF⟩:∃it,P.info? e=some it/\it.size=m+1:=by
  cases hq:P.info? e with
  |none=>simp[ep,hq]at fh
  |some it=>exact⟨it,rfl,by simpa[ep,hq]using fh⟩
 unfold Gc at hv
 split at hv
 ·rename_i i off len hb
  rw[hb]at rx
  simp only[Option.bind_eq_some_iff]at hv
  obtain⟨r,hg,hv⟩:=hv
  split at hv
  ·rename_i hc
   obtain⟨c1,c2,c3,c4⟩:=hc
   simp only[Option.some.injEq,Prod.mk.injEq]at hv
   obtain⟨rfl,rfl⟩:=hv
   rw[List.all_eq_true]at c4
   have hl:∀c∈ys,c.length=m+1:=fun c hc=>by have:=c4 c hc;simp at this;exact this.1
   have hf:∀c∈ys,∀b∈c,b.cell=true:=fun c hc b hb=>by have:=c4 c hc;simp at this;exact this.2 b hb
   obtain⟨oo,cap,B,ex,hB,h1,h2,h3,h4,hk⟩:=iT rx
   obtain⟨B',dH,R,ke,mh⟩:=S.row _ _ hg
   rw[hB]at dH;injection dH with dH;subst dH
   replace R:=R.row hk
   obtain⟨cur,T,hblk,hC,wb⟩:=R.cur
   obtain⟨A,sc,hu,hA⟩:=so S ry Dc hl hf
   by_cases h0:min ys.length len=0
   ·rw[h0]
    have e1:({r with rows:=r.rows.take off++ys.take 0++r.rows.drop (off+0)}:Row)=r:=by cases r;simp
    rw[e1]
    have e2:bR g i r=g:=by
     funext q;unfold bR;split
     ·rename_i h;rw[h,hg]
     ·rfl
    rw[e2]
    refine⟨goInt 0,w,ι,.inl (qp ho (by rw[ex,hu];exact HF ht hi _ _ _ _ _ _ h0)),Step.refl _ _ _ _,S,.eS _ _ (.int _ _),fun _ _=>rfl⟩
   ·rcases hA with rfl|⟨b,o2,news,rfl,yF,hsrc,hR,h1c⟩
    ·simp at h0
    have RQ:Nat.min ys.length len=min ys.length len:=rfl
    have hky:min ys.length len<=ys.length:=Nat.min_le_left _ _
    have jN:min ys.length len<=len:=Nat.min_le_right _ _
    generalize Ve:min ys.length len=kk at *
    have hlen0:len≠0:=by omega
    have C9:oo=off*B.sz:=by rcases h2 with h2|h2<;>omega
    have Jh:B.sz=m+1:=by rw[R.sz,c2]
    have yI:r.sz=m+1:=c2
    have Ts:kk*(m+1)<=ys.length*(m+1):=Nat.mul_le_mul_right _ hky
    have xz:(news.take (kk*(m+1))).length=kk*(m+1):=by rw[List.length_take,yF];omega
    have hbound:(off+kk)*(m+1)<=r.rows.length*(m+1):=Nat.mul_le_mul_right _ (by omega)
    have BU:=R.fits
    rw[yI]at BU
    have UZ:(off+kk)*(m+1)=off*(m+1)+kk*(m+1):=Nat.add_mul _ _ _
    have dQ:=run_storeCells_at P B.b oo T (news.take (kk*(m+1))) 0 cur w hblk (by rw[xz,hC,C9,Jh];omega) (fun v hv=>h1c v (List.mem_of_mem_take hv))
    have Tv:=run_loadCells_list (P:=P) w ⟨b,o2,none⟩ (news.take (kk*(m+1))) (fun j v hj=>by
     rw[List.getElem?_take]at hj
     split at hj
     ·have:=hsrc j v hj
      cases j with
      |zero=>simpa[Addr.add]using this
      |succ j=>simpa[Addr.add]using this
     ·cases hj)
    simp only[Nat.add_zero]at dQ
    have og:cur.toList.length=cur.size:=Array.length_toList
    have Ih:(ys.take kk).length=kk:=by rw[List.length_take];omega
    obtain⟨P1,P2⟩:=S.put (r':={r with rows:=r.rows.take off++ys.take kk++r.rows.drop (off+kk)}) hg c1 hB hblk (cur':=(cur.toList.take oo++news.take (kk*(m+1))++cur.toList.drop (oo+(news.take (kk*(m+1))).length)).toArray)
     (by simp only[List.size_toArray,List.length_append,List.length_drop,og,xz];rw[List.length_take,og,C9,Jh];omega) c1 rfl (by
      have:(r.rows.take off++ys.take kk++r.rows.drop (off+kk)).length=r.rows.length:=by simp;omega
      dsimp only;rw[this];exact R.fits) (fun cs dw=>by
      rcases List.mem_append.1 dw with h|h
      ·rcases List.mem_append.1 h with h|h
       ·exact R.len cs (List.mem_of_mem_take h)
       ·rw[hl cs (List.mem_of_mem_take h)];exact c2.symm
      ·exact R.len cs (List.mem_of_mem_drop h)) (fun cs dw b hb=>by
      rcases List.mem_append.1 dw with h|h
      ·rcases List.mem_append.1 h with h|h
       ·exact R.flat cs (List.mem_of_mem_take h) b hb
       ·exact hf cs (List.mem_of_mem_take h) b hb
      ·exact R.flat cs (List.mem_of_mem_drop h) b hb) (fun k j cs b hk hj=>by
      simp only[List.getElem?_toArray]
      rw[yI]
      rw[C9,Jh,xz]
      by_cases qb:k<off
      ·rw[List.append_assoc,List.getElem?_append_left (by simp;omega),List.getElem?_take,if_pos qb]at hk
       have gM:j<m+1:=by rw[<-yI,<-R.len cs (List.mem_of_getElem? hk)];exact(List.getElem?_eq_some_iff.1 hj).1
       have h2:=jT qb gM
       rw[List.append_assoc,List.getElem?_append_left (by simp only[List.length_take,og];omega),List.getElem?_take,if_pos h2]
       have:=wb k j cs b hk hj
       rw[yI]at this;simpa using this
      ·by_cases tg:k<off+kk
       ·rw[List.append_assoc,List.getElem?_append_right (by simp;omega),List.getElem?_append_left (by simp;omega)]at hk
        simp only[List.length_take]at hk
        rw[show k-min off r.rows.length=k-off by omega,List.getElem?_take,if_pos (by omega)]at hk
        have gM:j<m+1:=by rw[<-hl cs (List.mem_of_getElem? hk)];exact(List.getElem?_eq_some_iff.1 hj).1
        have qO:off*(m+1)<=k*(m+1):=Nat.mul_le_mul_right _ (by omega)
        have qQ:k*(m+1)+j-off*(m+1)=(k-off)*(m+1)+j:=by rw[Nat.sub_mul];omega
        have BV:(k-off)*(m+1)+j<kk*(m+1):=jT (by omega) gM
        rw[List.append_assoc,List.getElem?_append_right (by simp only[List.length_take,og];omega),List.getElem?_append_left (by rw[xz];simp only[List.length_take,og];omega)]
        obtain⟨u,R8,hu2⟩:=hR.2 ((k-off)*(m+1)+j) b (flat_get hl hk hj)
        refine⟨u,?_,hu2⟩
        rw[List.getElem?_take]
        simp only[List.length_take,og]
        rw[show k*(m+1)+j-min (off*(m+1)) cur.size=(k-off)*(m+1)+j by omega,if_pos BV]
        simpa using R8
       ·rw[List.getElem?_append_right (by simp;omega)]at hk
        simp only[List.length_append,List.length_take,List.getElem?_drop]at hk
        rw[show off+kk+(k-(min off r.rows.length+min kk ys.length))=k by omega]at hk
        have jN:=(List.getElem?_eq_some_iff.1 hk).1
        have qO:(off+kk)*(m+1)<=k*(m+1):=Nat.mul_le_mul_right _ (by omega)
        rw[List.getElem?_append_right (by rw[List.length_append,xz];simp only[List.length_take,og];omega)]
        rw[List.getElem?_drop,List.length_append,xz]
        simp only[List.length_take,og]
        rw[show off*(m+1)+kk*(m+1)+(k*(m+1)+j-(min (off*(m+1)) cur.size+kk*(m+1)))=k*(m+1)+j by omega]
        have:=wb k j cs b hk hj
        rw[yI]at this;simpa using this)
    refine⟨goInt kk,_,ι,.inl (qp ho ?_),P2,P1,.eS _ _ (.int _ _),fun _ _=>rfl⟩
    rw[ex,hu]
    have:=HG (w:=w) (sT:=t2) (ty:=o.type) ht hi ⟨B.b,oo,none⟩ ⟨b,o2,none⟩ ys.length sc len cap _ (by rw[xz,RQ,jF]) Tv dQ
    rw[RQ]at this
    exact this
  ·simp at hv
 ·simp at hv
end
end Go.Proofs.YtgoljkjaameagaaGreat.V

namespace Go.Proofs.YtgoljkjaameagaaGreat.V
open Go.RowKit
variable {P:Program} {w w':World} {D D' D2:Nat->Prop} {ι ι' ι2:Names}
section
variable {g:Rows} {hs:Nat}
theorem gC:∀{n:Nat} {l r:List AV},dd g n l=some r->r.length=l.length/\∀(j:Nat) (b:AV),r[j]? =some b->∃a,l[j]? =some a/\fz g n a=some b
 |n,[],r,h=>by
  rw[dd]at h;simp at h;subst h;simp
 |n,a::l,r,h=>by
  rw[dd]at h
  split at h
  ·rename_i b hb
   simp only[Option.map_eq_some_iff]at h
   obtain⟨r',hr,rfl⟩:=h
   obtain⟨h1,h2⟩:=gC hr
   refine⟨by simp[h1],fun j c hj=>?_⟩
   cases j with
   |zero=>simp at hj;subst hj;exact⟨a,rfl,hb⟩
   |succ j=>simp at hj ⊢;exact h2 j c hj
  ·simp at h
theorem vZ:∀{n:Nat} {l r:List (List AV)},dU g n l=some r->r.length=l.length/\∀(j:Nat) (b:List AV),r[j]? =some b->∃a,l[j]? =some a/\dd g n a=some b
 |n,[],r,h=>by
  rw[dU]at h;simp at h;subst h;simp
 |n,a::l,r,h=>by
  rw[dU]at h
  split at h
  ·rename_i b hb
   simp only[Option.map_eq_some_iff]at h
   obtain⟨r',hr,rfl⟩:=h
   obtain⟨h1,h2⟩:=vZ hr
   refine⟨by simp[h1],fun j c hj=>?_⟩
   cases j with
   |zero=>simp at hj;subst hj;exact⟨a,rfl,hb⟩
   |succ j=>simp at hj ⊢;exact h2 j c hj
  ·simp at h
theorem rU (hD:∀b,D b->D2 b) (ye:∀id row,g id=some row->row.w=true->∃B,ι id=some B/\ib P w D ι B row/\D2 B.b):∀(n:Nat) (a:AV) (u:Value) (r:AV),dh P w D ι a u->fz g n a=some r->dh P w D2 ι2 r u/\(a.cell=true->jH P w D2 r u/\r.cell=true):=by
 intro n
 induction n with
 |zero=>intro a u r _ h;rw[fz]at h;simp at h
 |succ n ih=>
  intro a u r hr h
  have both:∀{r:AV},jH P w D2 r u->r.cell=true->dh P w D2 ι2 r u/\(a.cell=true->jH P w D2 r u/\r.cell=true):=fun h1 h2=>⟨.eS _ _ h1,fun _=>⟨h1,h2⟩⟩
  cases a with
  |map id m=>rw[fz]at h;cases h
  |rO id=>rw[fz]at h;cases h
  |own id off len=>
   rw[fz]at h
   split at h
   ·rename_i row hg
    split at h
    ·rename_i hw
     split at h
     ·rename_i hle
      simp only[Option.map_eq_some_iff]at h
      obtain⟨rows,rZ,rfl⟩:=h
      obtain⟨B,hB,R,OF⟩:=ye id row hg hw
      obtain⟨o,cap,B',rfl,dH,h1,h2,h3,h4,hk⟩:=iT hr
      rw[hB]at dH;injection dH with dH;subst dH
      replace R:=R.row hk
      obtain⟨l1,l2⟩:=vZ rZ
      have hlen:rows.length=len:=by rw[l1];simp;omega
      by_cases h0:rows=[]
      ·subst h0
       simp at hlen;subst hlen
       exact both (.A6 _ _ h4) rfl
      ·have hlp:0<len:=by rw[<-hlen];exact List.length_pos_iff.2 h0
       have ho:o=off*B.sz:=by rcases h2 with h2|h2<;>omega
       have src:∀i cs,rows[i]? =some cs->∃c0,row.rows[off+i]? =some c0/\dd g n c0=some cs:=fun i cs hi=>by
        obtain⟨c0,jM,hf⟩:=l2 i cs hi
        rw[List.getElem?_take]at jM
        split at jM
        ·rw[List.getElem?_drop]at jM;exact⟨c0,jM,hf⟩
        ·simp at jM
       have cell:∀i j,i<len->j<row.sz->∃c0 a0 v,row.rows[off+i]? =some c0/\c0[j]? =some a0/\w.cell? ⟨B.b,o+(i*row.sz+j),none⟩=some v/\dh P w D ι a0 v:=fun i j hi hj=>by
        have rq:off+i<row.rows.length:=by omega
        have e1:=List.getElem?_eq_getElem rq
        have K6:j<row.rows[off+i].length:=by rw[R.len _ (List.getElem_mem rq)];exact hj
        obtain⟨v,hv,lU⟩:=R.at_ _ _ _ _ e1 (List.getElem?_eq_getElem K6)
        refine⟨_,_,v,e1,List.getElem?_eq_getElem K6,?_,lU⟩
        rw[ho,R.sz,<-hv]
        congr 2
        rw[Nat.add_mul];omega
       refine both (.sl rows B.b o len cap row.sz (fun i j=>(w.cell? ⟨B.b,o+(i*row.sz+j),none⟩).getD undef) hlen h1 h4 OF (fun cs dw=>?_) (fun cs dw b hb=>?_) (fun i j hi hj=>?_) (fun i j cs b hi hj=>?_)) rfl
       ·obtain⟨i,hi,rfl⟩:=List.getElem_of_mem dw
        obtain⟨c0,jM,hf⟩:=src i _ (List.getElem?_eq_getElem hi)
        rw[(gC hf).1];exact R.len c0 (List.mem_of_getElem? jM)
       ·obtain⟨i,hi,rfl⟩:=List.getElem_of_mem dw
        obtain⟨c0,jM,hf⟩:=src i _ (List.getElem?_eq_getElem hi)
        obtain⟨j,hj,rfl⟩:=List.getElem_of_mem hb
        obtain⟨a0,lE,Jp⟩:=(gC hf).2 j _ (List.getElem?_eq_getElem hj)
        obtain⟨v,_,lU⟩:=R.at_ _ _ _ _ jM lE
        exact((ih _ _ _ lU Jp).2 (R.flat c0 (List.mem_of_getElem? jM) a0 (List.mem_of_getElem? lE))).2
       ·obtain⟨c0,a0,v,_,_,hv,_⟩:=cell i j hi hj
        simp only[hv,Option.getD_some]
       ·obtain⟨c0,jM,hf⟩:=src i cs hi
        obtain⟨a0,lE,Jp⟩:=(gC hf).2 j b hj
        have nR:i<len:=by rw[<-hlen];exact(List.getElem?_eq_some_iff.1 hi).1
        have gM:j<row.sz:=by rw[<-R.len c0 (List.mem_of_getElem? jM)];exact(List.getElem?_eq_some_iff.1 lE).1
        obtain⟨c1,a1,v,e1,e2,hv,lU⟩:=cell i j nR gM
        rw[jM]at e1;injection e1 with e1;subst e1
        rw[lE]at e2;injection e2 with e2;subst e2
        simp only[hv,Option.getD_some]
        exact((ih _ _ _ lU Jp).2 (R.flat c0 (List.mem_of_getElem? jM) a0 (List.mem_of_getElem? lE))).1
     ·simp at h
    ·simp at h
   ·simp at h
  |ptr id i off=>
   rw[fz]at h
   split at h
   ·rename_i row hg
    split at h
    ·rename_i hw
     split at h
     ·rename_i c0 jM
      simp only[Option.map_eq_some_iff]at h
      obtain⟨cs,dw,rfl⟩:=h
      obtain⟨B,hB,R,OF⟩:=ye id row hg hw
      obtain⟨B',rfl,dH,hk⟩:=iU hr
      rw[hB]at dH;injection dH with dH;subst dH
      replace R:=R.row hk
      obtain⟨l1,l2⟩:=gC dw
      have at_:∀j b,cs[j]? =some b->∃a0 v,w.cell? ⟨B.b,i*B.sz+off+j,none⟩=some v/\dh P w D ι a0 v/\a0.cell=true/\fz g n a0=some b:=fun j b hj=>by
       obtain⟨a0,lE,hf⟩:=l2 j b hj
       rw[List.getElem?_drop]at lE
       obtain⟨v,hv,lU⟩:=R.at_ _ _ _ _ jM lE
       refine⟨a0,v,?_,lU,R.flat c0 (List.mem_of_getElem? jM) a0 (List.mem_of_getElem? lE),hf⟩
       rw[R.sz,Nat.add_assoc];exact hv
      refine both (.dn cs B.b _ (fun j=>(w.cell? ⟨B.b,i*B.sz+off+j,none⟩).getD undef) OF (fun b hb=>?_) (fun j hj=>?_) (fun j b hj=>?_)) rfl
      ·obtain⟨j,hj,rfl⟩:=List.getElem_of_mem hb
       obtain⟨a0,v,_,lU,hc,hf⟩:=at_ j _ (List.getElem?_eq_getElem hj)
       exact((ih _ _ _ lU hf).2 hc).2
      ·obtain⟨a0,v,hv,_⟩:=at_ j _ (List.getElem?_eq_getElem hj)
       simp only[hv,Option.getD_some]
      ·obtain⟨a0,v,hv,lU,hc,hf⟩:=at_ j b hj
       simp only[hv,Option.getD_some]
       exact((ih _ _ _ lU hf).2 hc).1
     ·simp at h
    ·simp at h
   ·simp at h
  |agg cs=>
   rw[fz]at h
   simp only[Option.map_eq_some_iff]at h
   obtain⟨r',ot,rfl⟩:=h
   obtain⟨vs,f,rfl,h1,h2,h3,h4⟩:=iA hr
   obtain⟨l1,l2⟩:=gC ot
   have hI:jH P w D2 (.agg r') (.agg vs):=.agg r' vs f (by rw[h1,l1]) (fun b hb=>by
    obtain⟨j,hj,rfl⟩:=List.getElem_of_mem hb
    obtain⟨a0,lE,hf⟩:=l2 j _ (List.getElem?_eq_getElem hj)
    exact((ih _ _ _ (h4 j a0 lE) hf).2 (h2 a0 (List.mem_of_getElem? lE))).2) (fun j hj=>h3 j (by rw[<-l1];exact hj)) (fun j b hj=>by
    obtain⟨a0,lE,hf⟩:=l2 j b hj
    exact((ih _ _ _ (h4 j a0 lE) hf).2 (h2 a0 (List.mem_of_getElem? lE))).1)
   exact⟨.eS _ _ hI,fun hc=>by simp[AV.cell]at hc⟩
  |iD cs=>
   rw[fz]at h
   simp only[Option.map_eq_some_iff]at h
   obtain⟨r',ot,rfl⟩:=h
   obtain⟨vs,f,rfl,h1,h3,h4⟩:=uW hr
   obtain⟨l1,l2⟩:=gC ot
   exact⟨.iD r' vs f (by rw[h1,l1]) (fun j hj=>h3 j (by rw[<-l1];exact hj)) (fun j b hj=>by
    obtain⟨a0,lE,hf⟩:=l2 j b hj
    exact(ih _ _ _ (h4 j a0 lE) hf).1),fun hc=>by simp[AV.cell]at hc⟩
  |fn f db=>
   rw[fz]at h
   split at h
   ·rename_i dE
    simp only[Option.map_eq_some_iff]at h
    obtain⟨r',ot,rfl⟩:=h
    obtain⟨vs,q,rfl,h0,h1,h3,h4⟩:=wY hr
    obtain⟨l1,l2⟩:=gC ot
    exact both (.fn f r' vs q h0 (by rw[h1,l1]) (fun j hj=>h3 j (by rw[<-l1];exact hj)) (fun j b hj=>by
     obtain⟨a0,lE,hf⟩:=l2 j b hj
     exact((ih _ _ _ (h4 j a0 lE) hf).2 (List.all_eq_true.1 dE a0 (List.mem_of_getElem? lE))).1)) rfl
   ·simp at h
  |int k m=>rw[fz]at h<;>(try simp at h)<;>(try subst h)<;>(try(rw[dt hr];exact⟨.eS _ _ (.int _ _),fun _=>⟨.int _ _,rfl⟩⟩))<;>(try(intros;simp_all))
  |bool b=>rw[fz]at h<;>(try simp at h)<;>(try subst h)<;>(try(rw[fb hr];exact⟨.eS _ _ (.bool _),fun _=>⟨.bool _,rfl⟩⟩))<;>(try(intros;simp_all))
  |str b=>rw[fz]at h<;>(try simp at h)<;>(try subst h)<;>(try(rw[fH hr];exact⟨.eS _ _ (.str _),fun _=>⟨.str _,rfl⟩⟩))<;>(try(intros;simp_all))
  |cu=>rw[fz]at h<;>(try simp at h)<;>(try subst h)<;>(try(rw[iR hr];exact⟨.eS _ _ .cu,fun _=>⟨.cu,rfl⟩⟩))<;>(try(intros;simp_all))
  |jb=>rw[fz]at h<;>(try simp at h)<;>(try subst h)<;>(try(rw[w5 hr];exact⟨.eS _ _ .jb,fun _=>⟨.jb,rfl⟩⟩))<;>(try(intros;simp_all))
  |ji=>rw[fz]at h<;>(try simp at h)<;>(try subst h)<;>(try(rw[CG hr];exact⟨.eS _ _ .ji,fun _=>⟨.ji,rfl⟩⟩))<;>(try(intros;simp_all))
  |ud f db=>rw[fz]at h<;>(try simp at h)<;>(try(intros;simp_all))
  |gO=>rw[fz]at h<;>(try simp at h)<;>(try subst h)<;>(try(cases hr with|eS _ _ hr=>exact both (hr.frame (fun _ _=>rfl) hD) rfl))<;>(try(intros;simp_all))
  |sl rows=>rw[fz]at h<;>(try simp at h)<;>(try subst h)<;>(try(cases hr with|eS _ _ hr=>exact both (hr.frame (fun _ _=>rfl) hD) rfl))<;>(try(intros;simp_all))
  |dn cs=>rw[fz]at h<;>(try simp at h)<;>(try subst h)<;>(try(cases hr with|eS _ _ hr=>exact both (hr.frame (fun _ _=>rfl) hD) rfl))<;>(try(intros;simp_all))
theorem iW:∀{n:Nat} {l r:List AV},ez g n l=some r->r.length=l.length/\∀(j:Nat) (b:AV),r[j]? =some b->∃a,l[j]? =some a/\gx g n a=some b
 |n,[],r,h=>by
  rw[ez]at h;simp at h;subst h;simp
 |n,a::l,r,h=>by
  rw[ez]at h
  split at h
  ·rename_i b hb
   simp only[Option.map_eq_some_iff]at h
   obtain⟨r',hr,rfl⟩:=h
   obtain⟨h1,h2⟩:=iW hr
   refine⟨by simp[h1],fun j c hj=>?_⟩
   cases j with
   |zero=>simp at hj;subst hj;exact⟨a,rfl,hb⟩
   |succ j=>simp at hj ⊢;exact h2 j c hj
  ·simp at h
theorem tT:∀{n:Nat} {l r:List (List AV)},ig g n l=some r->r.length=l.length/\∀(j:Nat) (b:List AV),r[j]? =some b->∃a,l[j]? =some a/\ez g n a=some b
 |n,[],r,h=>by
  rw[ig]at h;simp at h;subst h;simp
 |n,a::l,r,h=>by
  rw[ig]at h
  split at h
  ·rename_i b hb
   simp only[Option.map_eq_some_iff]at h
   obtain⟨r',hr,rfl⟩:=h
   obtain⟨h1,h2⟩:=tT hr
   refine⟨by simp[h1],fun j c hj=>?_⟩
   cases j with
   |zero=>simp at hj;subst hj;exact⟨a,rfl,hb⟩
   |succ j=>simp at hj ⊢;exact h2 j c hj
  ·simp at h
theorem GQ (ye:∀id row,g id=some row->row.w=true->∃B,ι id=some B/\ib P w D ι B row/\D2 B.b):∀(n:Nat) (a:AV) (u:Value) (r:AV),dh P w D ι a u->gx g n a=some r->dh P w D2 ι2 r u/\(a.cell=true->jH P w D2 r u/\r.cell=true):=by
 intro n
 induction n with
 |zero=>intro a u r _ h;rw[gx]at h;simp at h
 |succ n ih=>
  intro a u r hr h
  have both:∀{r:AV},jH P w D2 r u->r.cell=true->dh P w D2 ι2 r u/\(a.cell=true->jH P w D2 r u/\r.cell=true):=fun h1 h2=>⟨.eS _ _ h1,fun _=>⟨h1,h2⟩⟩
  cases a with
  |map id m=>rw[gx]at h<;>simp_all
  |rO id=>rw[gx]at h<;>simp_all
  |own id off len=>
   rw[gx]at h
   split at h
   ·rename_i row hg
    split at h
    ·rename_i hw
     split at h
     ·rename_i hle
      simp only[Option.map_eq_some_iff]at h
      obtain⟨rows,rZ,rfl⟩:=h
      obtain⟨B,hB,R,OF⟩:=ye id row hg hw
      obtain⟨o,cap,B',rfl,dH,h1,h2,h3,h4,hk⟩:=iT hr
      rw[hB]at dH;injection dH with dH;subst dH
      replace R:=R.row hk
      obtain⟨l1,l2⟩:=tT rZ
      have hlen:rows.length=len:=by rw[l1];simp;omega
      by_cases h0:rows=[]
      ·subst h0
       simp at hlen;subst hlen
       exact both (.A6 _ _ h4) rfl
      ·have hlp:0<len:=by rw[<-hlen];exact List.length_pos_iff.2 h0
       have ho:o=off*B.sz:=by rcases h2 with h2|h2<;>omega
       have src:∀i cs,rows[i]? =some cs->∃c0,row.rows[off+i]? =some c0/\ez g n c0=some cs:=fun i cs hi=>by
        obtain⟨c0,jM,hf⟩:=l2 i cs hi
        rw[List.getElem?_take]at jM
        split at jM
        ·rw[List.getElem?_drop]at jM;exact⟨c0,jM,hf⟩
        ·simp at jM
       have cell:∀i j,i<len->j<row.sz->∃c0 a0 v,row.rows[off+i]? =some c0/\c0[j]? =some a0/\w.cell? ⟨B.b,o+(i*row.sz+j),none⟩=some v/\dh P w D ι a0 v:=fun i j hi hj=>by
        have rq:off+i<row.rows.length:=by omega
        have e1:=List.getElem?_eq_getElem rq
        have K6:j<row.rows[off+i].length:=by rw[R.len _ (List.getElem_mem rq)];exact hj
        obtain⟨v,hv,lU⟩:=R.at_ _ _ _ _ e1 (List.getElem?_eq_getElem K6)
        refine⟨_,_,v,e1,List.getElem?_eq_getElem K6,?_,lU⟩
        rw[ho,R.sz,<-hv]
        congr 2
        rw[Nat.add_mul];omega
       refine both (.sl rows B.b o len cap row.sz (fun i j=>(w.cell? ⟨B.b,o+(i*row.sz+j),none⟩).getD undef) hlen h1 h4 OF (fun cs dw=>?_) (fun cs dw b hb=>?_) (fun i j hi hj=>?_) (fun i j cs b hi hj=>?_)) rfl
       ·obtain⟨i,hi,rfl⟩:=List.getElem_of_mem dw
        obtain⟨c0,jM,hf⟩:=src i _ (List.getElem?_eq_getElem hi)
        rw[(iW hf).1];exact R.len c0 (List.mem_of_getElem? jM)
       ·obtain⟨i,hi,rfl⟩:=List.getElem_of_mem dw
        obtain⟨c0,jM,hf⟩:=src i _ (List.getElem?_eq_getElem hi)
        obtain⟨j,hj,rfl⟩:=List.getElem_of_mem hb
        obtain⟨a0,lE,Jp⟩:=(iW hf).2 j _ (List.getElem?_eq_getElem hj)
        obtain⟨v,_,lU⟩:=R.at_ _ _ _ _ jM lE
        exact((ih _ _ _ lU Jp).2 (R.flat c0 (List.mem_of_getElem? jM) a0 (List.mem_of_getElem? lE))).2
       ·obtain⟨c0,a0,v,_,_,hv,_⟩:=cell i j hi hj
        simp only[hv,Option.getD_some]
       ·obtain⟨c0,jM,hf⟩:=src i cs hi
        obtain⟨a0,lE,Jp⟩:=(iW hf).2 j b hj
        have nR:i<len:=by rw[<-hlen];exact(List.getElem?_eq_some_iff.1 hi).1
        have gM:j<row.sz:=by rw[<-R.len c0 (List.mem_of_getElem? jM)];exact(List.getElem?_eq_some_iff.1 lE).1
        obtain⟨c1,a1,v,e1,e2,hv,lU⟩:=cell i j nR gM
        rw[jM]at e1;injection e1 with e1;subst e1
        rw[lE]at e2;injection e2 with e2;subst e2
        simp only[hv,Option.getD_some]
        exact((ih _ _ _ lU Jp).2 (R.flat c0 (List.mem_of_getElem? jM) a0 (List.mem_of_getElem? lE))).1
     ·simp at h
    ·simp at h
   ·simp at h
  |ptr id i off=>
   rw[gx]at h
   split at h
   ·rename_i row hg
    split at h
    ·rename_i hw
     split at h
     ·rename_i c0 jM
      simp only[Option.map_eq_some_iff]at h
      obtain⟨cs,dw,rfl⟩:=h
      obtain⟨B,hB,R,OF⟩:=ye id row hg hw
      obtain⟨B',rfl,dH,hk⟩:=iU hr
      rw[hB]at dH;injection dH with dH;subst dH
      replace R:=R.row hk
      obtain⟨l1,l2⟩:=iW dw
      have at_:∀j b,cs[j]? =some b->∃a0 v,w.cell? ⟨B.b,i*B.sz+off+j,none⟩=some v/\dh P w D ι a0 v/\a0.cell=true/\gx g n a0=some b:=fun j b hj=>by
       obtain⟨a0,lE,hf⟩:=l2 j b hj
       rw[List.getElem?_drop]at lE
       obtain⟨v,hv,lU⟩:=R.at_ _ _ _ _ jM lE
       refine⟨a0,v,?_,lU,R.flat c0 (List.mem_of_getElem? jM) a0 (List.mem_of_getElem? lE),hf⟩
       rw[R.sz,Nat.add_assoc];exact hv
      refine both (.dn cs B.b _ (fun j=>(w.cell? ⟨B.b,i*B.sz+off+j,none⟩).getD undef) OF (fun b hb=>?_) (fun j hj=>?_) (fun j b hj=>?_)) rfl
      ·obtain⟨j,hj,rfl⟩:=List.getElem_of_mem hb
       obtain⟨a0,v,_,lU,hc,hf⟩:=at_ j _ (List.getElem?_eq_getElem hj)
       exact((ih _ _ _ lU hf).2 hc).2
      ·obtain⟨a0,v,hv,_⟩:=at_ j _ (List.getElem?_eq_getElem hj)
       simp only[hv,Option.getD_some]
      ·obtain⟨a0,v,hv,lU,hc,hf⟩:=at_ j b hj
       simp only[hv,Option.getD_some]
       exact((ih _ _ _ lU hf).2 hc).1
     ·simp at h
    ·simp at h
   ·simp at h
  |agg cs=>
   rw[gx]at h
   simp only[Option.map_eq_some_iff]at h
   obtain⟨r',ot,rfl⟩:=h
   obtain⟨vs,f,rfl,h1,h2,h3,h4⟩:=iA hr
   obtain⟨l1,l2⟩:=iW ot
   have hI:jH P w D2 (.agg r') (.agg vs):=.agg r' vs f (by rw[h1,l1]) (fun b hb=>by
    obtain⟨j,hj,rfl⟩:=List.getElem_of_mem hb
    obtain⟨a0,lE,hf⟩:=l2 j _ (List.getElem?_eq_getElem hj)
    exact((ih _ _ _ (h4 j a0 lE) hf).2 (h2 a0 (List.mem_of_getElem? lE))).2) (fun j hj=>h3 j (by rw[<-l1];exact hj)) (fun j b hj=>by
    obtain⟨a0,lE,hf⟩:=l2 j b hj
    exact((ih _ _ _ (h4 j a0 lE) hf).2 (h2 a0 (List.mem_of_getElem? lE))).1)
   exact⟨.eS _ _ hI,fun hc=>by simp[AV.cell]at hc⟩
  |iD cs=>
   rw[gx]at h
   simp only[Option.map_eq_some_iff]at h
   obtain⟨r',ot,rfl⟩:=h
   obtain⟨vs,f,rfl,h1,h3,h4⟩:=uW hr
   obtain⟨l1,l2⟩:=iW ot
   exact⟨.iD r' vs f (by rw[h1,l1]) (fun j hj=>h3 j (by rw[<-l1];exact hj)) (fun j b hj=>by
    obtain⟨a0,lE,hf⟩:=l2 j b hj
    exact(ih _ _ _ (h4 j a0 lE) hf).1),fun hc=>by simp[AV.cell]at hc⟩
  |fn f db=>rw[gx]at h<;>(try simp at h)<;>(try(intros;simp_all))
  |int k m=>rw[gx]at h<;>(try simp at h)<;>(try subst h)<;>(try(rw[dt hr];exact⟨.eS _ _ (.int _ _),fun _=>⟨.int _ _,rfl⟩⟩))<;>(try(intros;simp_all))
  |bool b=>rw[gx]at h<;>(try simp at h)<;>(try subst h)<;>(try(rw[fb hr];exact⟨.eS _ _ (.bool _),fun _=>⟨.bool _,rfl⟩⟩))<;>(try(intros;simp_all))
  |str b=>rw[gx]at h<;>(try simp at h)<;>(try subst h)<;>(try(rw[fH hr];exact⟨.eS _ _ (.str _),fun _=>⟨.str _,rfl⟩⟩))<;>(try(intros;simp_all))
  |cu=>rw[gx]at h<;>(try simp at h)<;>(try subst h)<;>(try(rw[iR hr];exact⟨.eS _ _ .cu,fun _=>⟨.cu,rfl⟩⟩))<;>(try(intros;simp_all))
  |jb=>rw[gx]at h<;>(try simp at h)<;>(try subst h)<;>(try(rw[w5 hr];exact⟨.eS _ _ .jb,fun _=>⟨.jb,rfl⟩⟩))<;>(try(intros;simp_all))
  |ji=>rw[gx]at h<;>(try simp at h)<;>(try subst h)<;>(try(rw[CG hr];exact⟨.eS _ _ .ji,fun _=>⟨.ji,rfl⟩⟩))<;>(try(intros;simp_all))
  |ud f db=>rw[gx]at h<;>(try simp at h)<;>(try(intros;simp_all))
  |gO=>rw[gx]at h<;>(try simp at h)<;>(try subst h)<;>(try(cases hr with|eS _ _ hr=>cases hr;exact both .gO rfl))<;>(try(intros;simp_all))
  |sl rows=>rw[gx]at h<;>(try simp at h)<;>(try(intros;simp_all))
  |dn cs=>rw[gx]at h<;>(try simp at h)<;>(try(intros;simp_all))
end
end Go.Proofs.YtgoljkjaameagaaGreat.V

namespace Go.Proofs.YtgoljkjaameagaaGreat.V
open Go.RowKit
variable {P:Program} {w w':World} {D D':Nat->Prop} {ι ι':Names}
section
variable {g:Rows} {hs:Nat} {env:Env} {a:Act} {o:Oper} {id:Id} {v:AV}
theorem gy.HX (S:gy P hs D ι g w) {i:Id} {r r':Row} {B:sU} {ob:Obj} (hid:g i=some r) (hw:r.w=true) (hB:ι i=some B)
  (hR:(∀a v,dh P w D ι a v->dh P {w with heap:=w.heap.setIfInBounds B.b ob} D ι a v)->(w.heap.setIfInBounds B.b ob)[B.b]? =some ob->ib P {w with heap:=w.heap.setIfInBounds B.b ob} D ι B r'):
  gy P hs D ι (bR g i r') {w with heap:=w.heap.setIfInBounds B.b ob}/\Step hs D ι w D ι {w with heap:=w.heap.setIfInBounds B.b ob}:=by
 obtain⟨B0,xt,R,ke,mh⟩:=S.row i r hid
 rw[hB]at xt;injection xt with xt;subst xt
 have other:∀b,b≠B.b->(w.heap.setIfInBounds B.b ob)[b]? =w.heap[b]? :=fun b hb=>by simp[Ne.symm hb]
 have hd:∀b,D b->(w.heap.setIfInBounds B.b ob)[b]? =w.heap[b]? :=fun b hb=>other b (by rintro rfl;exact mh hw hb)
 have hr:∀a v,dh P w D ι a v->dh P {w with heap:=w.heap.setIfInBounds B.b ob} D ι a v:=fun a v h=>h.frame hd (fun _ h=>h) (fun _ _ h=>h)
 refine⟨⟨by simpa using S.lo,fun b hb=>by simpa using S.dead b hb,fun j q h=>?_,fun j j' q q' C C' h h' R3 hC DQ he=>?_⟩,⟨⟨rfl,rfl,rfl,by simp,fun k hk=>other k (by have:=ke hw;omega)⟩,hd,fun _ h=>h,fun _ _ h=>h,fun _ h=>.inl h⟩⟩
 ·unfold bR at h
  split at h
  ·rename_i e
   subst e
   injection h with h;subst h
   exact⟨B,hB,hR hr (by simp[R.lt]),fun _=>ke hw,fun _=>mh hw⟩
  ·rename_i e
   obtain⟨C,hC,RC,k1,k2⟩:=S.row j q h
   refine⟨C,hC,RC.frame (other C.b (fun Nx=>e ?_)) hr,k1,k2⟩
   exact(S.inj i j r q B C hid h hw hB hC Nx.symm).symm
 ·unfold bR at h h'
  have get:∀j p,(if j=i then some r' else g j)=some p->∃p0,g j=some p0/\(p.w=true->p0.w=true):=fun j p hp=>by
   split at hp
   ·rename_i e;subst e;injection hp with hp;subst hp;exact⟨r,hid,fun _=>hw⟩
   ·exact⟨p,hp,fun h=>h⟩
  obtain⟨p,hp,QH⟩:=get _ _ h
  obtain⟨p',Pc,_⟩:=get _ _ h'
  exact S.inj j j' p p' C C' hp Pc (QH R3) hC DQ he
theorem Fz {s:TS} {x y:AV} {u v:Value} (he:fX s x y=some true) (hx:dh P w D ι x u) (hy:dh P w D ι y v):u=v/\∀n,Instr.sameBits n u v=true:=by
 unfold fX at he
 split at he
 ·split at he
  ·rename_i hk
   subst hk
   simp at he;subst he
   rw[dt hx,dt hy]
   exact⟨rfl,fun n=>by cases n<;>simp[Instr.sameBits]⟩
  ·cases he
 ·simp at he;subst he
  rw[fb hx,fb hy]
  exact⟨rfl,fun n=>by cases n<;>simp[Instr.sameBits]⟩
 ·simp at he;subst he
  rw[fH hx,fH hy]
  exact⟨rfl,fun n=>by cases n<;>simp[Instr.sameBits,II]⟩
 ·cases he
theorem BB {n:Nat}:∀{ts:List TS} {xs ys:List AV} {vs us:List Value},eY ts xs ys=some true->vs.length=xs.length->us.length=ys.length->(∀(j:Nat) (a:AV),xs[j]? =some a->∃u,vs[j]? =some u/\dh P w D ι a u)->(∀(j:Nat) (a:AV),ys[j]? =some a->∃u,us[j]? =some u/\dh P w D ι a u)->
  us.length=vs.length/\(us.zip vs).all (fun p=>Instr.sameBits n p.1 p.2)=true
 |[],[],[],vs,us,_,h1,h2,_,_=>by
  cases vs<;>cases us<;>simp_all
 |[],x::xs,ys,vs,us,h,_,_,_,_=>by simp[eY]at h
 |[],[],y::ys,vs,us,h,_,_,_,_=>by simp[eY]at h
 |t::ts,[],ys,vs,us,h,_,_,_,_=>by simp[eY]at h
 |t::ts,x::xs,[],vs,us,h,_,_,_,_=>by simp[eY]at h
 |t::ts,x::xs,y::ys,[],us,h,h1,_,_,_=>by simp at h1
 |t::ts,x::xs,y::ys,v::vs,[],h,_,h2,_,_=>by simp at h2
 |t::ts,x::xs,y::ys,v::vs,u::us,h,h1,h2,hx,hy=>by
  unfold eY at h
  split at h
  ·rename_i a b ha hb
   simp only[Option.some.injEq,Bool.and_eq_true]at h
   obtain⟨rfl,rfl⟩:=h
   obtain⟨v',oi,rv⟩:=hx 0 x rfl
   obtain⟨u',FM,ru⟩:=hy 0 y rfl
   simp at oi FM;subst oi;subst FM
   obtain⟨e1,e2⟩:=Fz ha rv ru
   obtain⟨q1,q2⟩:=BB (n:=n) hb (by simpa using h1) (by simpa using h2) (fun j a hj=>by simpa using hx (j+1) a (by simpa using hj)) (fun j a hj=>by simpa using hy (j+1) a (by simpa using hj))
   refine⟨by simp[q1],?_⟩
   simp only[List.zip_cons_cons,List.all_cons,q2,Bool.and_true]
   rw[<-e1]
   have:=e2 n
   rw[<-e1]at this
   exact this
  ·cases h
theorem Cs {m:MK} {key:List AV}:∀{rows:List (List AV)} {i j:Nat},gh m key rows i=some (some j)->∃cs,i<=j/\rows[j-i]? =some cs/\eY m.ts key (cs.take m.ks)=some true
 |[],i,j,h=>by simp[gh]at h
 |cs::rows,i,j,h=>by
  unfold gh at h
  split at h
  ·rename_i hq
   simp at h;subst h
   exact⟨cs,Nat.le_refl _,by simp,hq⟩
  ·obtain⟨c,h1,h2,h3⟩:=Cs h
   exact⟨c,by omega,by rw[show j-i=(j-(i+1))+1 by omega];simpa using h2,h3⟩
  ·cases h
theorem wJ {m:MK} {k:AV} {rows:List (List AV)} {fi:Option Nat} (h:fS m k rows=some fi):k.isAgg=m.ka/\k.cells.length=m.ks/\(k.cells.all AV.cell=true)/\gh m k.cells rows 0=some fi:=by
 unfold fS at h
 split at h
 ·rename_i hc;exact⟨hc.1,hc.2.1,hc.2.2,h⟩
 ·cases h
theorem Kf {m:MK} {k y:AV} (h1:k.isAgg=m.ka) (h2:k.cells.length=m.ks):part m.ka m.ks (k.cells++[y])=some k/\(k.cells++[y])[m.ks]? =some y:=by
 refine⟨?_,by rw[List.getElem?_append_right (by omega),h2,Nat.sub_self];rfl⟩
 cases hk:m.ka with
 |false=>
  rw[hk]at h1
  rw[vN h1];rfl
 |true=>
  rw[hk]at h1
  cases k<;>simp[AV.isAgg]at h1
  rename_i cs
  simp only[AV.cells]at h2 ⊢
  simp only[part,if_true]
  rw[if_pos (by simp;omega),<-h2,List.take_left']
  rfl
theorem stays {k:TypeId} {m:MK} (hK:Fg P k m) {key kv:AV} {u Cz:Value} {cs:List AV} (h1:key.isAgg=m.ka) (hr:dh P w D ι key u) (hp:part m.ka m.ks cs=some kv) (ho:dh P w D ι kv Cz) (he:eY m.ts key.cells (cs.take m.ks)=some true):(Instr.keyThatStays Cz u).run P w=.ok u w:=by
 have hs:Instr.sameBits 10000 Cz u=true:=by
  rcases hK with⟨s,rfl,hs⟩|⟨fs,ts,rfl,rV,xP,dQ,dE⟩
  ·rw[vN h1]at he
   cases cs with
   |nil=>simp[part]at hp
   |cons c l=>
    simp[part]at hp;subst hp
    simp only[MK.ks,List.length_cons,List.length_nil,Nat.zero_add,List.take_succ_cons,List.take_zero,eY]at he
    cases hq:fX s key c with
    |none=>rw[hq]at he;simp at he
    |some b=>
     rw[hq]at he;simp at he;subst he
     obtain⟨e1,e2⟩:=Fz hq hr ho
     rw[<-e1]
     have:=e2 10000
     rwa [<-e1]at this
  ·cases key<;>simp[AV.isAgg]at h1
   rename_i ks
   simp only[part,if_true]at hp
   split at hp
   ·simp only[Option.some.injEq]at hp;subst hp
    obtain⟨vs,rfl,n1,r1⟩:=sn hr
    obtain⟨us,rfl,n2,r2⟩:=sn ho
    obtain⟨q1,q2⟩:=BB (n:=9999) (vs:=vs.toList) (us:=us.toList) he (by simpa[AV.cells]using n1) (by simpa using n2) (fun j a hj=>by simpa using r1 j a hj) (fun j a hj=>by simpa using r2 j a hj)
    simp only[Instr.sameBits,Bool.and_eq_true,beq_iff_eq]
    exact⟨by simpa using q1,q2⟩
   ·cases hp
 simp[Instr.keyThatStays,hs]
theorem Kx {es:Array MapEntry} {clock:Nat} (h:Gp es clock) (k v:Value):Gp (es.push ⟨k,v,clock⟩) (clock+1):=by
 refine⟨fun x hx=>?_,?_⟩
 ·simp only[Array.toList_push,List.mem_append,List.mem_singleton]at hx
  rcases hx with hx|rfl
  ·have:=h.1 x hx;omega
  ·exact Nat.lt_succ_self _
 ·simp only[Array.toList_push,List.map_append,List.map_cons,List.map_nil]
  refine List.nodup_append.2 ⟨h.2,by simp,fun a ha b hb=>?_⟩
  obtain⟨x,hx,rfl⟩:=List.mem_map.1 ha
  simp at hb;subst hb
  have:=h.1 x hx;omega
theorem EV {es:Array MapEntry} {clock:Nat} (h:Gp es clock) (j:Nat) (k v:Value):Gp (es.modify j fun e=>{e with key:=k,val:=v}) clock:=by
 have e:(es.modify j fun e=>{e with key:=k,val:=v}).toList.map (·.born)=es.toList.map (·.born):=by
  refine List.ext_getElem? fun i=>?_
  simp only[List.getElem?_map,Array.getElem?_toList,Array.getElem?_modify]
  split
  ·cases es[i]? <;>rfl
  ·rfl
 refine⟨fun x hx=>?_,by rw[e];exact h.2⟩
 have hb:x.born∈(es.modify j fun e=>{e with key:=k,val:=v}).toList.map (·.born):=List.mem_map_of_mem hx
 rw[e]at hb
 obtain⟨y,hy,hyb⟩:=List.mem_map.1 hb
 rw[<-hyb];exact h.1 y hy
theorem HK {es:Array MapEntry} {clock:Nat} (h:Gp es clock) {j:Nat} (hj:j<es.size):Gp (es.eraseIdxIfInBounds j) clock:=by
 have e:(es.eraseIdxIfInBounds j).toList=es.toList.eraseIdx j:=by
  unfold Array.eraseIdxIfInBounds
  rw[dif_pos hj,Array.toList_eraseIdx]
 refine⟨fun x hx=>h.1 x ((List.eraseIdx_sublist _ _).subset (by rwa [e]at hx)),?_⟩
 rw[e]
 exact((List.eraseIdx_sublist es.toList j).map (·.born)).nodup h.2
theorem BH {k y:AV} (h1:k.cells.all AV.cell=true) (h2:y.cell=true):∀a∈k.cells++[y],a.cell=true:=fun a ha=>by
 rcases List.mem_append.1 ha with ha|ha
 ·exact List.all_eq_true.1 h1 a ha
 ·rw[List.mem_singleton.1 ha];exact h2
theorem Oq {t:TypeId} {x k y:Operand} {m:MK} {z:K} {x' k' y':O} {g':Rows} (S:gy P hs D ι g w) (E:cC P w D ι env a) (ho:o.op=.mapUpdate t x k y∨o.op=.insert t x k y) (hc:s7 P t=some (m,z)) (hx:cO P x=some x') (hk:cO P k=some k') (hy:cO P y=some y')
  (hv:bF (.set m) [dc env x',dc env k',dc env y'] g=some g'):De P hs a o w D ι id .undef g':=by
 obtain⟨kt,e,i,zv,ht,hi,qm,Tu,hK⟩:=rL hc
 simp only[bF,Option.bind_eq_some_iff]at hv
 obtain⟨p,hp,fi,FJ,hv⟩:=hv
 split at hv
 ·rename_i hcond
  obtain⟨hw,hyc,_⟩:=hcond
  simp only[Option.some.injEq]at hv;subst hv
  obtain⟨B,hu,hg,hB,uQ,es,clock,hb,fh,hlen,hM⟩:=Ac S (dp E hx) hp
  have rk:=dp E hk
  have ry:=dp E hy
  obtain⟨K3,res,hf,hF⟩:=vV (B:=B) hK rk fh hM FJ
  obtain⟨k1,k2,k3,k4⟩:=wJ FJ
  obtain⟨B',dH,R,_⟩:=S.row p.1 p.2 hg
  rw[hB]at dH;injection dH with dH;subst dH
  obtain⟨pk1,pk2⟩:=Kf (y:=dc env y') k1 k2
  have fa:(getObj B.b).run P w=.ok (.map es clock) w:=MapKept.run_getObj_map hb
  rcases hF with⟨rfl,rfl⟩|⟨j,en,rfl,he,rfl⟩
  ·have oh:=S.HX (ob:=.map (es.push ⟨a.eval k,a.eval y,clock⟩) (clock+1)) (r':={p.2 with rows:=dI p.2.rows ((dc env k').cells++[dc env y']) none}) hg hw hB fun hr k5=>⟨R.sz,fun cs dw=>?_,fun xw=>(by rw[uQ]at xw;cases xw),fun m' BW=>?_,fun c hc=>(by rw[uQ]at hc;cases hc)⟩
   ·refine⟨undef,_,ι,.inr ⟨?_,rfl⟩,oh.2,oh.1,dh.undef,fun _ _=>rfl⟩
    rcases ho with ho|ho<;>
    ·simp only[execOp,ho,Instr.mapUpdate,hu,Sem.run_bind,run_underlying ht,Result.andThen_ok,fa,K3,hf,MapKept.run_setObj_map _ hb,Sem.run_pure]
   ·rcases List.mem_append.1 dw with h|h
    ·exact R.flat cs h
    ·rw[List.mem_singleton.1 h];exact BH k3 hyc
   ·rw[uQ]at BW;simp only[Option.some.injEq,BK.map.injEq]at BW;subst BW
    refine⟨(R.map m uQ).1,_,_,k5,by simp[dI,fh],⟨fun cs dw=>?_,Kx hlen.2 _ _⟩,fun q cs hq=>?_⟩
    ·rcases List.mem_append.1 dw with h|h
     ·exact hlen.1 cs h
     ·rw[List.mem_singleton.1 h];simp[k2]
    ·rcases Nat.lt_or_ge q p.2.rows.length with dV|qO
     ·simp only[dI]at hq
      rw[List.getElem?_append_left dV]at hq
      obtain⟨en,kv,vv,q1,q2,q3,q4,q5⟩:=hM q cs hq
      exact⟨en,kv,vv,by rw[Array.getElem?_push_lt (by omega)];rw[Array.getElem?_eq_getElem (by omega)]at q1;simpa using q1,q2,q3,hr _ _ q4,hr _ _ q5⟩
     ·simp only[dI]at hq
      rw[List.getElem?_append_right qO]at hq
      have hq0:q=p.2.rows.length:=by
       have:=(List.getElem?_eq_some_iff.1 hq).1
       simp at this;omega
      subst hq0
      simp at hq;subst hq
      exact⟨⟨a.eval k,a.eval y,clock⟩,_,_,by rw[<-fh];simp,pk1,pk2,hr _ _ rk,hr _ _ ry⟩
  ·simp only[Nat.zero_add]at k4 FJ hf ⊢
   obtain⟨Qq,_,LS,heq⟩:=Cs k4
   simp only[Nat.sub_zero]at LS
   obtain⟨Ug,kv,vv,q1,q2,_,q4,_⟩:=hM j Qq LS
   have DW:Ug=en:=by
    have h1:es.toList[j]? =some Ug:=by simpa using q1
    rw[he]at h1;injection h1 with h1;exact h1.symm
   subst DW
   have dQ:=stays (w:=w) hK k1 rk q2 q4 heq
   have oh:=S.HX (ob:=.map (es.modify j fun e=>{e with key:=a.eval k,val:=a.eval y}) clock) (r':={p.2 with rows:=dI p.2.rows ((dc env k').cells++[dc env y']) (some j)}) hg hw hB fun hr k5=>⟨R.sz,fun cs dw=>?_,fun xw=>(by rw[uQ]at xw;cases xw),fun m' BW=>?_,fun c hc=>(by rw[uQ]at hc;cases hc)⟩
   ·refine⟨undef,_,ι,.inr ⟨?_,rfl⟩,oh.2,oh.1,dh.undef,fun _ _=>rfl⟩
    rcases ho with ho|ho<;>
    ·simp only[execOp,ho,Instr.mapUpdate,hu,Sem.run_bind,run_underlying ht,Result.andThen_ok,fa,K3,hf,q1,Option.map_some,Option.getD_some,dQ,MapKept.run_setObj_map _ hb,Sem.run_pure]
   ·rcases List.mem_or_eq_of_mem_set dw with h|h
    ·exact R.flat cs h
    ·rw[h];exact BH k3 hyc
   ·rw[uQ]at BW;simp only[Option.some.injEq,BK.map.injEq]at BW;subst BW
    have gM:=(List.getElem?_eq_some_iff.1 LS).1
    refine⟨(R.map m uQ).1,_,_,k5,by simp[dI,fh],⟨fun cs dw=>?_,EV hlen.2 _ _ _⟩,fun q cs hq=>?_⟩
    ·rcases List.mem_or_eq_of_mem_set dw with h|h
     ·exact hlen.1 cs h
     ·rw[h];simp[k2]
    ·simp only[dI,List.getElem?_set]at hq
     split at hq
     ·rename_i QA
      subst QA
      (try rw[if_pos gM]at hq)
      injection hq with hq;subst hq
      exact⟨{Ug with key:=a.eval k,val:=a.eval y},_,_,by rw[Array.getElem?_modify];simp[q1],pk1,pk2,hr _ _ rk,hr _ _ ry⟩
     ·rename_i QA
      obtain⟨en,kv,vv,q1,q2,q3,q4,q5⟩:=hM q cs hq
      exact⟨en,kv,vv,by rw[Array.getElem?_modify];simp[QA,q1],q2,q3,hr _ _ q4,hr _ _ q5⟩
 ·cases hv
theorem Oo {t t':TypeId} {x k:Operand} {m:MK} {z:K} {x' k':O} {g':Rows} (S:gy P hs D ι g w) (E:cC P w D ι env a) (ho:o.op=.call {callee:=.builtin .delete,args:= #[x,k],argTypes:= #[t,t']}) (hc:s7 P t=some (m,z)) (hx:cO P x=some x') (hk:cO P k=some k')
  (hv:bF (.del m) [dc env x',dc env k'] g=some g'):De P hs a o w D ι id .undef g':=by
 obtain⟨kt,e,i,zv,ht,hi,qm,Tu,hK⟩:=rL hc
 simp only[bF,Option.bind_eq_some_iff]at hv
 obtain⟨p,hp,fi,FJ,hv⟩:=hv
 split at hv
 ·rename_i hw
  simp only[Option.some.injEq]at hv;subst hv
  obtain⟨B,hu,hg,hB,uQ,es,clock,hb,fh,hlen,hM⟩:=Ac S (dp E hx) hp
  have rk:=dp E hk
  obtain⟨K3,res,hf,hF⟩:=vV (B:=B) hK rk fh hM FJ
  obtain⟨k1,k2,k3,k4⟩:=wJ FJ
  obtain⟨B',dH,R,_⟩:=S.row p.1 p.2 hg
  rw[hB]at dH;injection dH with dH;subst dH
  have fa:(getObj B.b).run P w=.ok (.map es clock) w:=MapKept.run_getObj_map hb
  have go:∀ob,(Builtin.delete_ #[t,t'] o.type #[a.eval x,a.eval k]).run P w=.ok (.tuple #[]) {w with heap:=w.heap.setIfInBounds B.b ob}->(execOp a.eval o).run P w=.ok (.value undef) {w with heap:=w.heap.setIfInBounds B.b ob}:=fun ob h=>by
   simp only[execOp,ho,resolve,Sem.run_bind,Sem.run_pure,Result.andThen_ok,invoke,builtin,Array.map]
   simp[h,undef]
  rcases hF with⟨rfl,rfl⟩|⟨j,en,rfl,he,rfl⟩
  ·have oh:=S.HX (ob:=.map es clock) (r':={p.2 with rows:=dP p.2.rows none}) hg hw hB fun hr k5=>⟨R.sz,R.flat,fun xw=>(by rw[uQ]at xw;cases xw),fun m' BW=>?_,fun c hc=>(by rw[uQ]at hc;cases hc)⟩
   ·refine⟨undef,_,ι,.inl (go _ ?_),oh.2,oh.1,dh.undef,fun _ _=>rfl⟩
    simp[Builtin.delete_,hu,run_underlying ht,fa,K3,hf,MapKept.run_setObj_map _ hb]
   ·rw[uQ]at BW;simp only[Option.some.injEq,BK.map.injEq]at BW;subst BW
    exact⟨(R.map m uQ).1,_,_,k5,fh,hlen,fun q cs hq=>by
     obtain⟨en,kv,vv,q1,q2,q3,q4,q5⟩:=hM q cs hq
     exact⟨en,kv,vv,q1,q2,q3,hr _ _ q4,hr _ _ q5⟩⟩
  ·simp only[Nat.zero_add]at hf ⊢
   have gM:j<es.size:=by have:=(List.getElem?_eq_some_iff.1 he).1;simpa using this
   have oh:=S.HX (ob:=.map (es.eraseIdxIfInBounds j) clock) (r':={p.2 with rows:=dP p.2.rows (some j)}) hg hw hB fun hr k5=>⟨R.sz,fun cs dw=>R.flat cs (List.mem_of_mem_eraseIdx dw),fun xw=>(by rw[uQ]at xw;cases xw),fun m' BW=>?_,fun c hc=>(by rw[uQ]at hc;cases hc)⟩
   ·refine⟨undef,_,ι,.inl (go _ ?_),oh.2,oh.1,dh.undef,fun _ _=>rfl⟩
    simp[Builtin.delete_,hu,run_underlying ht,fa,K3,hf,MapKept.run_setObj_map _ hb]
   ·rw[uQ]at BW;simp only[Option.some.injEq,BK.map.injEq]at BW;subst BW
    have he2:∀q,(es.eraseIdxIfInBounds j)[q]? =(es.toList.eraseIdx j)[q]? :=fun q=>by
     unfold Array.eraseIdxIfInBounds
     rw[dif_pos gM,<-Array.getElem?_toList,Array.toList_eraseIdx]
    refine⟨(R.map m uQ).1,_,_,k5,by simp[dP,Array.eraseIdxIfInBounds,gM,List.length_eraseIdx,<-fh],⟨fun cs dw=>hlen.1 cs (List.mem_of_mem_eraseIdx dw),HK hlen.2 gM⟩,fun q cs hq=>?_⟩
    simp only[dP,List.getElem?_eraseIdx]at hq
    split at hq
    ·rename_i dV
     obtain⟨en,kv,vv,q1,q2,q3,q4,q5⟩:=hM q cs hq
     exact⟨en,kv,vv,by rw[he2,List.getElem?_eraseIdx,if_pos dV];simpa using q1,q2,q3,hr _ _ q4,hr _ _ q5⟩
    ·rename_i dV
     obtain⟨en,kv,vv,q1,q2,q3,q4,q5⟩:=hM (q+1) cs hq
     exact⟨en,kv,vv,by rw[he2,List.getElem?_eraseIdx,if_neg dV];simpa using q1,q2,q3,hr _ _ q4,hr _ _ q5⟩
 ·cases hv
end
end Go.Proofs.YtgoljkjaameagaaGreat.V
