/- A small language in which the program's functions are read by value: its values, its operations, its code, and how the program's code is brought into it. -/
import Derived.WalkKit
import Derived.WalkSpells
import Derived.WalkLawsBesides
import Derived.Lib.Hide
import Derived.Great.BuildSlice
import Derived.Conc.LoneCalls
import Derived.MapKept
import Derived.WideKeyRuns
set_option linter.unusedVariables false
set_option linter.unusedSimpArgs false
set_option maxRecDepth 100000
set_option maxHeartbeats 16000000
namespace Go.Proofs.YtgoelphibofcmaaGreat.V
open Go.RowKit
structure Id where
  site:Nat
  bq:Nat
  deriving DecidableEq,Repr
inductive TS where
  |tI|tB|tS
  deriving Repr,DecidableEq
structure MK where
  ka:Bool
  ts:List TS
  deriving Repr,DecidableEq
inductive AV where
  |int (k:IntKind) (n:Int)
  |bool (b:Bool)
  |str (s:ByteArray)
  |cC|gN|iU
  |sl (rows:List (List AV))
  |own (id:Id) (off len:Nat)
  |ptr (id:Id) (i off:Nat)
  |cQ (cs:List AV)
  |agg (cs:List AV)
  |gP (vs:List AV)
  |fn (f:Nat) (cH:List AV)
  |map (id:Id) (m:MK)
  |ji
  |sQ (f:Nat) (first:List AV)
  |re (id:Id)
  deriving Inhabited
def AV.undef:AV:=.gP []
def AV.cell:AV->Bool
  | .agg _| .gP _=>false
  |_=>true
def AV.cells:AV->List AV
  | .agg cs=>cs
  |v=>[v]
inductive K where
  |int (k:IntKind) (n:Int)
  |bool (b:Bool)
  |str (l:List UInt8)
  |cC|gN|iU|ji
  deriving Repr,DecidableEq
def K.val:K->Value
  | .int k n=>.int k n
  | .bool b=>.bool b
  | .str l=>.string ⟨l.toArray⟩
  | .cC=>.slice none 0 0
  | .gN=>.pointer none
  | .iU=>.nilFunc
  | .ji=>.map none
def K.av:K->AV
  | .int k n=>.int k n
  | .bool b=>.bool b
  | .str l=>.str ⟨l.toArray⟩
  | .cC=>.cC
  | .gN=>.gN
  | .iU=>.iU
  | .ji=>.ji
def Gx:Value->Option K
  | .int k n=>some (.int k n)
  | .bool b=>some (.bool b)
  | .string s=>some (.str s.data.toList)
  | .slice none 0 0=>some .cC
  | .pointer none=>some .gN
  | .nilFunc=>some .iU
  | .map none=>some .ji
  |_=>none
inductive O where
  |t (n:Nat)
  |k (c:K)
  |ka (cs:List K)
  |f (n:Nat)
  deriving Repr,DecidableEq
inductive MQ where
  |new (m:MK)
  |look (m:MK) (ok:Bool) (zero:K)
  |len (m:MK)
  deriving Repr,DecidableEq
inductive MW where
  |set (m:MK)
  |del (m:MK)
  deriving Repr,DecidableEq
inductive gu where
  |cR (x:O)
  |pick (c a b:O)
  |new (zero:List K)
  |box (x:O)
  |build (zero:List K) (parts:List (Nat×Nat×O))
  |kM (sz len:Nat) (parts:List O)
  |load (agg:Bool) (n:Nat) (a:O)
  |store (n:Nat) (a x:O)
  |AI (x:O)
  |bin (op:BinOp) (k:IntKind) (x y:O)
  |sh (left:Bool) (x y:O)
  |KU (op:BinOp) (x y:O)
  |NI (neg:Bool) (t:TS) (x y:O)
  |R4 (neg:Bool) (ts:List TS) (x y:O)
  |Qq (neg LH:Bool) (x:O)
  |R5 (neg:Bool) (x:O)
  |not (x:O)
  |neg (x:O)
  |conv (k:IntKind) (x:O)
  |EY (x:O)
  |slice (sz:Nat) (x:O) (lo hi:Option O)
  |Ao (x:O) (lo hi:Option O)
  |fR (off:Nat) (x:O)
  |field (agg:Bool) (off n:Nat) (x:O)
  |dF (sz:Nat) (x i:O)
  |LB (len sz:Nat) (x i:O)
  |LD (x i:O)
  |eL (agg:Bool) (len n:Nat) (x i:O)
  |extract (i:Nat) (x:O)
  |len (x:O)
  |LK (x:O)
  |append (sz:Nat) (x y:O)
  |copy (sz:Nat) (x y:O)
  |clear (zero:List K) (x:O)
  |LP (f:Nat) (cH:List O)
  |LQ (f:Nat) (first:List O)
  |jV (zero:List K) (len cap:O)
  |call (f:Nat) (args:List O)
  |tj (x:O) (args:List O)
  |mq (q:MQ) (xs:List O)
  |mw (q:MW) (xs:List O)
  |Jp (x:O)
  |Ji (x:O)
  |snd (x y:O)
  |OS (x:O)
  |bad
  deriving Repr,DecidableEq
structure aY where
  dst:Option Nat
  op:gu
  guard:Option (Nat×Bool)
  site:Nat
  hid:List Nat
  deriving Repr,DecidableEq
def q (d:Nat) (op:gu) (s:Nat):aY:=⟨some d,op,none,s,[]⟩
inductive VC where
  |skip
  |ej (draw:Bool) (ops:List aY)
  |seq (a b:VC)
  |cond (c:O) (x y:VC)
  |block (id:Nat) (c:VC)
  |loop (c:VC)
  |exit (id:Nat)
  |ret
  |one (o:aY) (c:VC)
  |both (a b:VC)
  |loc (t s:Nat) (y:O) (c:VC)
  |NB (ops:List aY)
  deriving Repr,DecidableEq
inductive nI where
  |tmp (t:Nat)
  |cell (agg:Bool) (n:Nat) (t:Nat)
  deriving Repr,DecidableEq
structure AH where
  ntmps:Nat
  yJ:Nat
  body:VC
  res:List nI
  deriving Repr,DecidableEq
def fJ (P:Program) (f:Nat):Bool:=
  match P.funcs[f]? with
  |some fn=>fn.body.isSome&& !(fn.name== "runtime.NumGoroutine")
  |none=>false
def cO (P:Program):Operand->Option O
  | .tmp t=>some (.t t)
  | .const (.agg cs)=>(cs.toList.mapM Gx).map O.ka
  | .const v=>(Gx v).map O.k
  | .global _=>none
  | .func f=>if fJ P f then some (.f f)else none
def jH (P:Program) (t:TypeId):Option (List K):=
  match P.info? t with
  |some i=>match i.zero with
    |some v=>if v.cells.size=i.size then v.cells.toList.mapM Gx else none
    |none=>none
  |none=>none
def dS (P:Program) (t:TypeId):Option Nat:=(P.info? t).map (·.size)
def nO (P:Program) (t:TypeId):Option Bool:=
  match P.underlying t with
  |some (.struct _)|some (.array _ _)=>some true
  |some _=>some false
  |none=>none
inductive S3 where
  |sc (t:TS)|ag (ts:List TS)
  deriving Repr,DecidableEq
def fu (P:Program) (t:TypeId):Option TS:=
  match P.underlying t with
  |some .bool=>some .tB
  |some (.int _)=>some .tI
  |some .string=>some .tS
  |_=>none
def Dp (P:Program) (inner:List Field->Option (List TS)):Nat->List Field->Option (List TS)
  |_,[]=>some []
  |off,f::r=>
    if f.offset=off/\f.name≠ "_" then
      match fu P f.type with
      |some t=>if nO P f.type=some false then(Dp P inner (off+1) r).map (t::·)else none
      |none=>match P.underlying f.type with
        |some (.struct fs)=>if !P.stoodInHeld f.type then match inner fs.toList with
          |some ts=>if dS P f.type=some ts.length/\ts≠[]then(Dp P inner (off+ts.length) r).map (ts++·)else none
          |none=>none else none
        |_=>none
    else none
def eG (P:Program):Nat->Nat->List Field->Option (List TS)
  |0,_,[]=>some []
  |0,_,_::_=>none
  |d+1,off,fs=>Dp P (eG P d 0) off fs
def Te (P:Program) (t:TypeId):Option S3:=
  match fu P t with
  |some s=>some (.sc s)
  |none=>match P.underlying t with
    |some (.struct fs)=>if !P.stoodInHeld t&& !P.eqGuardType P.depth t then(eG P 4 0 fs.toList).map S3.ag else none
    |_=>none
def sn (P:Program) (fs:Array Field):List (Nat×O)->Option (List (Nat×Nat×O))
  |[]=>some []
  |(i,x)::r=>match fs[i]? with
    |some f=>match dS P f.type with
      |some n=>(sn P fs r).map ((f.offset,n,x)::·)
      |none=>none
    |none=>none
def sr (P:Program) (ps:Array (Nat×Operand)):Option (List (Nat×O)):=ps.toList.mapM fun(i,x)=>(cO P x).map (i,·)
def qZ (P:Program):Option Operand->Option (Option O)
  |none=>some none
  |some x=>(cO P x).map some
def so (P:Program) (neg:Bool) (t:TypeId) (x y:Operand):Option gu:=
  match y with
  | .const (.slice none 0 0)=>match P.underlying t with
    |some (.slice _)=>(cO P x).map (gu.Qq neg false)
    |_=>none
  | .const .nilFunc=>match P.underlying t with
    |some (.func ..)=>(cO P x).map (gu.Qq neg true)
    |_=>none
  | .const (.pointer none)=>match P.underlying t with
    |some (.pointer _)=>(cO P x).map (gu.R5 neg)
    |_=>none
  |_=>match Te P t with
    |some (.sc s)=>do pure (.NI neg s (<-cO P x) (<-cO P y))
    |some (.ag ts)=>do pure (.R4 neg ts (<-cO P x) (<-cO P y))
    |_=>none
def uY (P:Program) (op:BinOp) (t:TypeId) (x y:Operand):Option gu:=
  match op with
  | .eql=>so P false t x y
  | .neq=>so P true t x y
  | .shl=>do pure (.sh true (<-cO P x) (<-cO P y))
  | .shr=>do pure (.sh false (<-cO P x) (<-cO P y))
  |op=>match P.underlying t with
    |some (.int k)=>do pure (.bin op k (<-cO P x) (<-cO P y))
    |some .string=>do pure (.KU op (<-cO P x) (<-cO P y))
    |_=>none
def sq (P:Program) (t:TypeId):Option (MK×K):=
  match P.underlying t with
  |some (.map k e)=>match nO P e,(P.info? e).bind (·.zero),fu P k,P.underlying k with
    |some false,some zv,some s,_=>(Gx zv).map fun z=>(⟨false,[s]⟩,z)
    |some false,some zv,none,some (.struct fs)=>match eG P 4 0 fs.toList,Gx zv with
      |some ts,some z=>if !P.stoodInHeld k/\fs.toList.all (fun f=>(fu P f.type).isSome)then some (⟨true,ts⟩,z)else none
      |_,_=>none
    |_,_,_,_=>none
  |_=>none
def nB (P:Program) (c:Call):Option gu:=
  match c.callee with
  | .builtin .len=>match c.args.toList,c.argTypes.toList with
    |[x],[t]=>match P.underlying t with
      |some (.slice _)=>(cO P x).map gu.len
      |some .string=>(cO P x).map gu.LK
      |some (.map _ _)=>match sq P t,cO P x with
        |some (m,_),some x=>some (.mq (.len m) [x])
        |_,_=>none
      |some (.chan _ _)=>(cO P x).map gu.Ji
      |_=>none
    |_,_=>none
  | .builtin .append=>match c.args.toList,c.argTypes.toList with
    |[x,y],[t,u]=>match P.underlying t with
      |some (.slice e)=>match dS P e,jH P e,P.info? e with
        |some (sz+1),some _,some i=>if i.bytes<=32768/\t=u then do pure (.append (sz+1) (<-cO P x) (<-cO P y))else none
        |_,_,_=>none
      |_=>none
    |_,_=>none
  | .builtin .clear=>match c.args.toList,c.argTypes.toList with
    |[x],[t]=>match P.underlying t with
      |some (.slice e)=>match dS P e,jH P e with
        |some (_+1),some z=>(cO P x).map (gu.clear z)
        |_,_=>none
      |_=>none
    |_,_=>none
  | .value (.func f)=>if fJ P f then(c.args.toList.mapM (cO P)).map (gu.call f)else none
  | .value (.tmp t)=>(c.args.toList.mapM (cO P)).map (gu.tj (.t t))
  | .builtin .delete=>match c.args.toList,c.argTypes.toList with
    |[x,k],[t,_]=>match sq P t,cO P x,cO P k with
      |some (m,_),some x,some k=>some (.mw (.del m) [x,k])
      |_,_,_=>none
    |_,_=>none
  | .builtin .copy=>match c.args.toList,c.argTypes.toList with
    |[x,y],[t,_]=>match P.underlying t with
      |some (.slice e)=>match dS P e with
        |some (sz+1)=>do pure (.copy (sz+1) (<-cO P x) (<-cO P y))
        |_=>none
      |_=>none
    |_,_=>none
  |_=>none
def qM (P:Program) (o:Op):Option gu:=
  match o with
  | .move x| .assign x=>(cO P x).map gu.cR
  | .pick c a b=>do pure (.pick (<-cO P c) (<-cO P a) (<-cO P b))
  | .alloc e=>(jH P e).map gu.new
  | .box _ x=>(cO P x).map gu.box
  | .load t a=>do pure (.load (<-nO P t) (<-dS P t) (<-cO P a))
  | .store t a x=>do pure (.store (<-dS P t) (<-cO P a) (<-cO P x))
  | .nilCheck x=>(cO P x).map gu.AI
  | .binOp op t x y _=>uY P op t x y
  | .unOp .not _ x=>(cO P x).map gu.not
  | .unOp .neg _ x=>(cO P x).map gu.neg
  | .convert s d x=>match P.underlying s,P.underlying d with
    |some (.int _),some (.int k)=>(cO P x).map (gu.conv k)
    |some .string,some .string=>(cO P x).map gu.EY
    |_,_=>none
  | .slice t x lo hi none=>match P.underlying t with
    |some (.slice e)=>do
      pure (.slice (<-dS P e) (<-cO P x) (<-qZ P lo) (<-qZ P hi))
    |some .string=>do pure (.Ao (<-cO P x) (<-qZ P lo) (<-qZ P hi))
    |_=>none
  | .fieldAddr s x i=>match P.underlying s with
    |some (.struct fs)=>match fs[i]? with
      |some f=>match dS P f.type with
        |some (_+1)=>(cO P x).map (gu.fR f.offset)
        |_=>none
      |none=>none
    |_=>none
  | .field s x i=>match P.underlying s with
    |some (.struct fs)=>match fs[i]? with
      |some f=>do pure (.field (<-nO P f.type) f.offset (<-dS P f.type) (<-cO P x))
      |none=>none
    |_=>none
  | .indexAddr t x i=>match P.underlying t with
    |some (.slice e)=>match dS P e with
      |some (m+1)=>do pure (.dF (m+1) (<-cO P x) (<-cO P i))
      |_=>none
    |some (.array len e)=>match dS P e with
      |some (m+1)=>do pure (.LB len (m+1) (<-cO P x) (<-cO P i))
      |_=>none
    |_=>none
  | .index t x i=>match P.underlying t with
    |some .string=>do pure (.LD (<-cO P x) (<-cO P i))
    |some (.array len e)=>do pure (.eL (<-nO P e) len (<-dS P e) (<-cO P x) (<-cO P i))
    |_=>none
  | .extract x i=>(cO P x).map (gu.extract i)
  | .build t ps=>match P.underlying t with
    |some (.struct fs)=>
      match jH P t,sr P ps with
      |some z,some l=>
        if fs.all (fun f=>(P.info? f.type).isSome)then(sn P fs l).map (gu.build z)else none
      |_,_=>none
    |some (.array _ e)=>
      match jH P t,sr P ps,dS P e with
      |some z,some l,some n=>some (.build z (l.map fun(i,x)=>(i*n,n,x)))
      |_,_,_=>none
    |_=>none
  | .buildSlice t len ps=>match P.underlying t with
    |some (.slice e)=>match dS P e,jH P e,sr P ps with
      |some (sz+1),some _,some l=>
        if len*(sz+1)<=4096/\l.map (·.1)=List.range len then some (.kM (sz+1) len (l.map (·.2)))else none
      |_,_,_=>none
    |_=>none
  | .makeFunc (.func f) first cH=>
    if first= #[]/\fJ P f then(cH.toList.mapM (cO P)).map (gu.LP f)else if cH= #[]/\fJ P f then(first.toList.mapM (cO P)).map (gu.LQ f)else none
  | .makeSlice t l c=>match P.underlying t with
    |some (.slice e)=>match dS P e,jH P e,P.info? e with
      |some (_+1),some z,some i=>if i.bytes<=32768 then do pure (.jV z (<-cO P l) (<-cO P c))else none
      |_,_,_=>none
    |_=>none
  | .call c=>nB P c
  | .makeChan t n=>match P.underlying t with
    |some (.chan _ e)=>match P.info? e with
      |some i=>if i.bytes<=32768 then(cO P n).map gu.Jp else none
      |none=>none
    |_=>none
  | .send x y=>do pure (.snd (<-cO P x) (<-cO P y))
  | .recv t x false=>match P.underlying t with
    |some (.chan _ e)=>match (P.info? e).bind (·.zero)with
      |some _=>(cO P x).map gu.OS
      |none=>none
    |_=>none
  | .makeMap t none=>match sq P t with
    |some (m,_)=>some (.mq (.new m) [])
    |none=>none
  | .lookup t x k ok=>match sq P t,cO P x,cO P k with
    |some (m,z),some x,some k=>some (.mq (.look m ok z) [x,k])
    |_,_,_=>none
  | .mapUpdate t x k v| .insert t x k v=>match sq P t,cO P x,cO P k,cO P v with
    |some (m,_),some x,some k,some v=>some (.mw (.set m) [x,k,v])
    |_,_,_,_=>none
  | .makeInterface _ _=>some .bad
  | .panic _=>some .bad
  |_=>none
inductive SZ where
  |pure|look|make|write
  deriving DecidableEq,Repr
def gu.cls:gu->SZ
  | .new _| .box _| .kM .. | .jV .. | .mq (.new _) _| .Jp _=>.make
  | .load .. | .dF .. | .slice .. | .call .. | .tj .. | .mq .. | .Ji _=>.look
  | .store .. | .append .. | .copy .. | .clear .. | .mw .. | .snd .. | .OS _=>.write
  |_=>.pure
def clash:SZ->SZ->Bool
  | .pure,_|_,.pure=>false
  | .write,_|_,.write=>true
  |_,_=>false
def jC (ops:Array Oper):Array Nat:=Region.before ops
def qC:gu->Bool:=fun o=>o.cls==.make||o.cls==.write
def gu.lO:gu->Bool
  | .call .. | .tj .. =>true
  |_=>false
def De (ops:Array Oper) (o:Oper):Option (Option (Nat×Bool)):=
  match o.guard with
  |none=>some none
  |some (i,b)=>match (ops[i]?).bind (·.dst)with
    |some t=>some (some (t,b))
    |none=>none
def kN (P:Program) (ops:Array Oper) (nt site0:Nat) (draw mk:Bool) (bs:Array Nat) (hidden:List (Nat×Bool)) (j:Nat) (o:Oper):Option aY:=do
  let v <-qM P o.op
  let g <-De ops o
  if (o.dst.all fun d=>decide (d<nt))then
    pure {dst:=o.dst,op:=v,guard:=g,site:=site0+j,hid:=if draw then(hidden.filter fun(i,m)=>m&& !(bs.getD j 0).testBit i&&(i !=j||mk&&v.lO)).map fun(i,_)=>site0+i else[]}
  else none
def allM {α:Type} (f:Nat->Oper->Option α):List Oper->Nat->Option (List α)
  |[],_=>some []
  |o::r,j=>do pure ((<-f j o)::(<-allM f r (j+1)))
def gO:O->List Nat
  | .t n=>[n]
  |_=>[]
def wm:Option O->List Nat
  |some x=>gO x
  |none=>[]
def gu.gF:gu->List Nat
  | .clear _ x| .cR x| .box x| .load _ _ x| .AI x| .Qq _ _ x| .R5 _ x| .not x| .neg x| .conv _ x| .EY x| .fR _ x| .field _ _ _ x| .extract _ x| .len x| .LK x| .Jp x| .Ji x| .OS x=>gO x
  | .pick c a b=>gO c++gO a++gO b
  | .new _| .bad=>[]
  | .build _ ps=>ps.flatMap fun(_,_,x)=>gO x
  | .kM _ _ ps=>ps.flatMap gO
  | .store _ a x| .snd a x=>gO a++gO x
  | .bin _ _ x y| .sh _ x y| .KU _ x y| .NI _ _ x y| .R4 _ _ x y| .dF _ x y| .LB _ _ x y| .LD x y| .eL _ _ _ x y| .append _ x y| .copy _ x y| .jV _ x y=>gO x++gO y
  | .slice _ x lo hi| .Ao x lo hi=>gO x++wm lo++wm hi
  | .LP _ l| .LQ _ l| .call _ l| .mq _ l| .mw _ l=>l.flatMap gO
  | .tj x l=>gO x++l.flatMap gO
def aY.gF (v:aY):List Nat:=v.op.gF++(match v.guard with|some (t,_)=>[t]|none=>[])
def s9 (x y:aY):Bool:=
  (match x.dst with
   |some d=> !y.gF.contains d&&y.dst !=some d
   |none=>true)&&
  (match y.dst with
   |some d=> !x.gF.contains d
   |none=>true)
def aY.makes (v:aY):Bool:=qC v.op||v.op.lO&&v.hid.contains v.site
def Fa (x y:aY):Bool:=
  s9 x y&& !clash x.op.cls y.op.cls&&(!x.makes||y.hid.contains x.site)&&(!y.makes||x.hid.contains y.site)&&x.site !=y.site
def E4 (ops:Array Oper):Bool:=ops.toList.zipIdx.all fun(o,j)=>o.after.all fun e=> !Region.binds .any e||decide (e.on<j)
def ou (ops:Array Oper) (vl:List aY) (bs:Array Nat):Bool:=
  E4 ops&&vl.zipIdx.all fun(y,j)=>vl.zipIdx.all fun(x,i)=> !(decide (i<j))||(bs.getD j 0).testBit i||Fa x y
def q9 (P:Program) (nt site0:Nat) (ops:Array Oper) (draw mk:Bool):Option (List aY):=
  let bs:=if draw then jC ops else #[]
  let hidden:=if draw then ops.toList.zipIdx.map fun(o,i)=>(i,((qM P o.op).map fun v=>qC v||mk&&v.lO).getD false)else[]
  match allM (kN P ops nt site0 draw mk bs hidden) ops.toList 0 with
  |some vl=>if !draw||ou ops vl bs then some vl else none
  |none=>none
def kX (v:aY):Bool:= !v.op.lO&&v.op.cls !=.write
def yg (x y:aY):Bool:=s9 x y&&x.op.cls==.pure||Fa x y&&kX x&&kX y
def qk (ops:Array Oper) (vl:List aY) (bs:Array Nat) (listed:Array Bool) (i:Nat):Bool:=
  match vl[i]? with
  |some x=>(List.range ops.size).all fun j=>listed.getD j false||j==i||(bs.getD j 0).testBit i||(match vl[j]? with|some y=>yg x y|none=>false)
  |none=>false
def M6 (vl:List aY) (x:aY):Option (Nat×Nat×O):=
  match x.op,x.guard with
  | .append _ (.t t) y,none=>match vl.find? fun v=>v.dst==some t&&v.op.cls==.make with
    |some v=>some (t,v.site,y)
    |none=>none
  |_,_=>none
def E9 (s:Nat) (x y:aY):Bool:=s9 x y&&kX y&&y.hid.contains s&&y.hid.contains x.site&&y.site !=s&&y.site !=x.site
def ox (ops:Array Oper) (vl:List aY) (bs:Array Nat) (listed:Array Bool) (i s:Nat):Bool:=
  match vl[i]? with
  |some x=>(List.range ops.size).all fun j=>listed.getD j false||j==i||(bs.getD j 0).testBit i||(match vl[j]? with|some y=>E9 s x y|none=>false)
  |none=>false
def OG (ops:Array Oper) (vl:List aY) (bs:Array Nat) (listed:Array Bool) (i:Nat):Option (Nat×Nat×Nat×O×aY):=
  match vl[i]? with
  |some x=>match M6 vl x with
    |some (t,s,y)=>if ox ops vl bs listed i s then some (i,t,s,y,x)else none
    |none=>none
  |none=>none
def A5:List VC->Option VC
  |[]=>none
  |[c]=>some c
  |c::r=>(A5 r).map (VC.both c)
def wW (ops:Array Oper) (vl:List aY) (bs:Array Nat):Nat->Array Bool->Option VC
  |0,listed=>
    match Region.ready .any ops listed with
    |[]=>some (.ej false [])
    |_::_=>none
  |n+1,listed=>
    match Region.ready .any ops listed with
    |[]=>some (.ej false [])
    |r::rs=>let rdy:=r::rs
      match rdy.find? (qk ops vl bs listed)with
      |some i=>match vl[i]? with
        |some vo=>(wW ops vl bs n (listed.setIfInBounds i true)).map (VC.one vo)
        |none=>none
      |none=>match rdy.findSome? (OG ops vl bs listed)with
        |some (i,t,s,y,vo)=>(wW ops vl bs n (listed.setIfInBounds i true)).map fun c=>VC.loc t s y (.one vo c)
        |none=>match rdy.mapM fun i=>(vl[i]?).bind fun vo=>(wW ops vl bs n (listed.setIfInBounds i true)).map (VC.one vo)with
          |some l=>A5 l
          |none=>none
def M4:Op->Bool
  | .send .. | .recv .. =>true
  |_=>false
def Qj (P:Program) (nt site0:Nat) (ops:Array Oper) (draw:Bool) (mode:Nat):Option VC:=
  if draw&&mode==2 then
    match allM (kN P ops nt site0 true false (jC ops) (ops.toList.zipIdx.map fun(o,i)=>(i,((qM P o.op).map qC).getD false))) ops.toList 0 with
    |some vl=>wW ops vl (jC ops) ops.size (Array.replicate ops.size false)
    |none=>none
  else if !draw&&ops.any (fun o=>M4 o.op)then(q9 P nt site0 ops false false).map VC.NB
  else(q9 P nt site0 ops draw (mode==1)).map (VC.ej draw)
def wb (md:List (Nat×Nat)) (id:Nat):Nat:=
  match md with
  |[]=>0
  |(i,m)::r=>if i=id then m else wb r id
def jn (P:Program) (md:List (Nat×Nat)) (nt fid:Nat):Code->Option VC
  | .skip=>some .skip
  | .region id ops draw=>Qj P nt ((fid*1000+id)*1000) ops draw (wb md id)
  | .seq a b=>do pure (.seq (<-jn P md nt fid a) (<-jn P md nt fid b))
  | .cond c x y=>do pure (.cond (<-cO P c) (<-jn P md nt fid x) (<-jn P md nt fid y))
  | .block id c=>(jn P md nt fid c).map (VC.block id)
  | .loop c=>(jn P md nt fid c).map VC.loop
  | .exit id=>some (.exit id)
  | .ret=>some .ret
  |_=>none
def Df (P:Program) (r:ResultVar):Option nI:=
  match r with
  | .tmp t=>some (.tmp t)
  | .cell a t=>do pure (.cell (<-nO P t) (<-dS P t) a)
def xr (P:Program) (f:Nat) (md:List (Nat×Nat)):Option AH:=
  match P.funcs[f]? with
  |some fn=>match fn.body with
    |some c=>do
      let b <-jn P md fn.ntmps f c
      let r <-fn.results.toList.mapM (Df P)
      if fn.params.size+fn.nfree<=fn.ntmps then pure {ntmps:=fn.ntmps,yJ:=fn.params.size+fn.nfree,body:=b,res:=r}else none
    |none=>none
  |none=>none
def lV (P:Program) (f:Nat):Option AH:=xr P f []
end Go.Proofs.YtgoelphibofcmaaGreat.V

namespace Go.Proofs.YtgoelphibofcmaaGreat.V
open Go.RowKit
structure Row where
 w:Bool
 sz:Nat
 rows:List (List AV)
abbrev Rows:=Id->Option Row
structure au where
 get:Rows
 next:Nat
abbrev Env:=Nat->AV
def upd (env:Env):Option Nat->AV->Env
 |some d,v=>fun t=>if t=d then v else env t
 |none,_=>env
inductive Ex where
 |normal
 |exit (id:Nat)
 |ret
 deriving DecidableEq
def cK (env:Env):O->AV
 | .t n=>env n
 | .k c=>c.av
 | .ka cs=>.agg (cs.map K.av)
 | .f n=>.fn n []
def bJ (g:Rows) (id:Id) (r:Row):Rows:=fun i=>if i=id then some r else g i
def cr (g:Rows) (id:Id):Rows:=fun i=>if i=id then none else g i
def gr:List Nat->Nat->Rows->Rows
 |[],_,g=>g
 |h::t,n,g=>fun id=>if (h::t).contains id.site=true/\id.bq=n then none else g id
def ro (g:Rows):Rows:=fun id=>(g id).map fun r=>{r with w:=false}
def part (agg:Bool) (n:Nat) (cs:List AV):Option AV:=
 if agg then(if n<=cs.length then some (.agg (cs.take n))else none)else cs.head?
def rowAt (g:Rows) (id:Id) (i:Nat):Option (List AV):=(g id).bind (·.rows[i]?)
def ld (g:Rows) (agg:Bool) (n:Nat):AV->Option AV
 | .ptr id i off=>(rowAt g id i).bind fun cs=>part agg n (cs.drop off)
 | .cQ cs=>part agg n cs
 |_=>none
def dK:BinOp->IntKind->Int->Int->Option AV
 | .add,k,a,b=>some (.int k (k.wrap (a+b)))
 | .sub,k,a,b=>some (.int k (k.wrap (a-b)))
 | .mul,k,a,b=>some (.int k (k.wrap (a*b)))
 | .quo,k,a,b=>if b=0 then none else some (.int k (k.wrap (a.tdiv b)))
 | .rem,k,a,b=>if b=0 then none else some (.int k (a.tmod b))
 | .lss,_,a,b=>some (.bool (decide (a<b)))
 | .leq,_,a,b=>some (.bool (decide (a<=b)))
 | .gtr,_,a,b=>some (.bool (decide (b<a)))
 | .geq,_,a,b=>some (.bool (decide (b<=a)))
 | .and,k,a,b=>some (.int k (k.wrap (BitVec.ofInt k.bits a&&& BitVec.ofInt k.bits b).toNat))
 | .or,k,a,b=>some (.int k (k.wrap (BitVec.ofInt k.bits a|||BitVec.ofInt k.bits b).toNat))
 | .xor,k,a,b=>some (.int k (k.wrap (BitVec.ofInt k.bits a ^^^ BitVec.ofInt k.bits b).toNat))
 |_,_,_,_=>none
def ep (op:BinOp):AV->AV->Option AV
 | .int k a,.int k' b=>if k=k' then dK op k a b else none
 |_,_=>none
def iC (left:Bool):AV->AV->Option AV
 | .int k a,.int _ b=>if b<0 then none else some (.int k (if left then k.wrap (a*2 ^ min b.toNat k.bits)else a.fdiv (2 ^ min b.toNat k.bits)))
 |_,_=>none
def eF:BinOp->ByteArray->ByteArray->Option AV
 | .add,a,b=>if a.size+b.size<=9223372036854775807 then some (.str (a++b))else none
 | .lss,a,b=>some (.bool (Op.bytesLess a.toList b.toList))
 | .leq,a,b=>some (.bool (Op.bytesLess a.toList b.toList||(a.toList==b.toList)))
 | .gtr,a,b=>some (.bool !(Op.bytesLess a.toList b.toList||(a.toList==b.toList)))
 | .geq,a,b=>some (.bool !(Op.bytesLess a.toList b.toList))
 |_,_,_=>none
def dj (op:BinOp):AV->AV->Option AV
 | .str a,.str b=>eF op a b
 |_,_=>none
def gq:TS->AV->AV->Option Bool
 | .tI,.int k a,.int k' b=>if k=k' then some (decide (a=b))else none
 | .tB,.bool a,.bool b=>some (a==b)
 | .tS,.str a,.str b=>some (decide (a=b))
 |_,_,_=>none
def fh:List TS->List AV->List AV->Option Bool
 |[],[],[]=>some true
 |t::ts,a::r,b::s=>match gq t a b,fh ts r s with
  |some x,some y=>some (x&&y)
  |_,_=>none
 |_,_,_=>none
def dz (neg b:Bool):Bool:=if neg then !b else b
def dh:AV->Option Bool
 | .cC=>some true
 | .own _ _ _=>some false
 | .sl (_::_)=>some false
 |_=>none
def de:AV->Option Bool
 | .iU=>some true
 | .fn _ _=>some false
 |_=>none
def Kf:AV->Option Bool
 | .gN=>some true
 | .ptr .. | .cQ _=>some false
 |_=>none
def ew (LH:Bool) (x:AV):Option Bool:=if LH then de x else dh x
def ec (len:Nat):Option AV->Option Nat
 |none=>some len
 |some (.int _ n)=>if 0<=n/\n<=len then some n.toNat else none
 |_=>none
def ee (h:Nat):Option AV->Option Nat
 |none=>some 0
 |some (.int _ n)=>if 0<=n/\n<=h then some n.toNat else none
 |_=>none
def bV (g:Rows) (sz:Nat) (x:AV) (lo hi:Option AV):Option AV:=
 match x with
 | .cC=>(ec 0 hi).bind fun h=>(ee h lo).map fun _=>.cC
 | .sl rows=>(ec rows.length hi).bind fun h=>(ee h lo).bind fun l=>if ∀cs∈rows,cs.length=sz then some (.sl ((rows.drop l).take (h-l)))else none
 | .own id off len=>(g id).bind fun r=>(ec len hi).bind fun h=>(ee h lo).bind fun l=>if r.sz=sz then some (.own id (off+l) (h-l))else none
 |_=>none
def bh (x:AV) (lo hi:Option AV):Option AV:=
 match x with
 | .str s=>(ec s.size hi).bind fun h=>(ee h lo).map fun l=>.str (s.extract l h)
 |_=>none
def EJ (off:Nat):AV->Option AV
 | .ptr id i o=>some (.ptr id i (o+off))
 | .cQ cs=>some (.cQ (cs.drop off))
 |_=>none
def bU (g:Rows) (sz:Nat):AV->AV->Option AV
 | .sl rows,.int _ n=>if 0<=n then(rows[n.toNat]?).bind fun cs=>if cs.length=sz then some (.cQ cs)else none else none
 | .own id off len,.int _ n=>if 0<=n/\n<len then(g id).bind fun r=>if r.sz=sz then some (.ptr id (off+n.toNat) 0)else none else none
 |_,_=>none
def cX (len sz:Nat):AV->AV->Option AV
 | .ptr id r off,.int _ n=>if 0<=n/\n<len then some (.ptr id r (off+n.toNat*sz))else none
 | .cQ cs,.int _ n=>if 0<=n/\n<len then some (.cQ (cs.drop (n.toNat*sz)))else none
 |_,_=>none
def cZ:AV->AV->Option AV
 | .str s,.int _ n=>if 0<=n then(s[n.toNat]?).map fun b=>.int .u8 b.toNat else none
 |_,_=>none
def cY (agg:Bool) (len n:Nat):AV->AV->Option AV
 | .agg cs,.int _ i=>if 0<=i/\i<len then part agg n (cs.drop (i.toNat*n))else none
 |_,_=>none
def eu:AV->Option Nat
 | .cC=>some 0
 | .sl rows=>some rows.length
 | .own _ _ n=>some n
 |_=>none
def ez:AV->Option AV
 | .bool b=>some (.bool !b)
 |_=>none
def ev:AV->Option AV
 | .int k n=>some (.int k (k.wrap (0-n)))
 |_=>none
def cW (k:IntKind):AV->Option AV
 | .int _ n=>some (.int k (k.wrap n))
 |_=>none
def cj:AV->Option AV
 | .str s=>some (.str s)
 |_=>none
def di:AV->AV->AV->Option AV
 | .bool c,a,b=>some (if c then a else b)
 |_,_,_=>none
def er:AV->Option AV
 | .ptr id i o=>some (.ptr id i o)
 | .cQ cs=>some (.cQ cs)
 |_=>none
def bS (agg:Bool) (off n:Nat):AV->Option AV
 | .agg cs=>if off+n<=cs.length then part agg n (cs.drop off)else none
 |_=>none
def aQ (i:Nat):AV->Option AV
 | .gP vs=>vs[i]?
 |_=>none
def db:AV->Option AV
 | .str s=>some (.int .i64 s.size)
 |_=>none
def rowOf (sz:Nat) (v:AV):Option (List AV):=if v.cells.length=sz/\v.cells.all AV.cell then some v.cells else none
def cU (v:AV):Option (List AV):=if v.cells.all AV.cell then some v.cells else none
def rowsOf (sz:Nat):List AV->Option (List (List AV))
 |[]=>some []
 |v::r=>(rowOf sz v).bind fun c=>(rowsOf sz r).map fun cs=>c::cs
def cG:List AV->List (Nat×Nat×AV)->Option (List AV)
 |cs,[]=>some cs
 |cs,(off,n,v)::r=>if v.cells.length=n/\off+n<=cs.length/\v.cells.all AV.cell then cG (cs.take off++v.cells++cs.drop (off+n)) r else none
def dL:Nat:=16777216
def iA (zero:List K):AV->AV->Option (Nat×Row)
 | .int _ l,.int _ c=>if 0<=l/\l<=c/\c<=dL then some (l.toNat,⟨true,zero.length,List.replicate l.toNat (zero.map K.av)⟩)else none
 |_,_=>none
def rI:Nat:=1000000000
def MK.ks (m:MK):Nat:=m.ts.length
def MK.nS (m:MK):Nat:=rI+m.ks
def AV.isAgg:AV->Bool
 | .agg _=>true
 |_=>false
def ga (m:MK) (key:List AV):List (List AV)->Nat->Option (Option Nat)
 |[],_=>some none
 |r::l,i=>match fh m.ts key (r.take m.ks)with
  |some true=>some (some i)
  |some false=>ga m key l (i+1)
  |none=>none
def ef (g:Rows) (m:MK):AV->Option (Id×Row)
 | .map id m'=>if m'=m then(g id).map fun r=>(id,r)else none
 |_=>none
def fM (m:MK) (k:AV) (rows:List (List AV)):Option (Option Nat):=if k.isAgg=m.ka/\k.cells.length=m.ks/\k.cells.all AV.cell then ga m k.cells rows 0 else none
def eo (m:MK) (z:K) (rows:List (List AV)):Option Nat->Option AV
 |some i=>(rows[i]?).bind fun cs=>cs[m.ks]?
 |none=>some z.av
def bG (q:MQ) (vs:List AV) (g:Rows) (id:Id):Option (AV×Option Row):=
 match q,vs with
 | .new m,[]=>some (.map id m,some ⟨true,m.nS,[]⟩)
 | .look m ok z,[x,k]=>(ef g m x).bind fun p=>(fM m k p.2.rows).bind fun fi=>(eo m z p.2.rows fi).map fun v=>(if ok then .gP [v,.bool fi.isSome]else v,none)
 | .len m,[x]=>(ef g m x).map fun p=>(.int .i64 p.2.rows.length,none)
 |_,_=>none
def qj:Nat:=2000000000
def dc:AV->Option Nat
 | .int _ n=>if 0<=n/\n<=1048576 then some n.toNat else none
 |_=>none
def da (g:Rows):AV->Option AV
 | .re id=>(g id).map fun r=>.int .i64 r.rows.length
 |_=>none
def eB (g:Rows):AV->AV->Option Rows
 | .re id,v=>(g id).bind fun r=>if r.w/\qj+r.rows.length<r.sz/\v.cell then some (bJ g id {r with rows:=r.rows++[[v]]})else none
 |_,_=>none
def eA (g:Rows):AV->Option (AV×Rows)
 | .re id=>(g id).bind fun r=>match r.rows with
  |[v]::rest=>if r.w then some (v,bJ g id {r with rows:=rest})else none
  |_=>none
 |_=>none
def dW (rows:List (List AV)) (e:List AV):Option Nat->List (List AV)
 |some i=>rows.set i e
 |none=>rows++[e]
def ea (rows:List (List AV)):Option Nat->List (List AV)
 |some i=>rows.eraseIdx i
 |none=>rows
def bK (q:MW) (vs:List AV) (g:Rows):Option Rows:=
 match q,vs with
 | .set m,[x,k,v]=>(ef g m x).bind fun p=>(fM m k p.2.rows).bind fun fi=>if p.2.w/\v.cell/\v.isAgg=false then some (bJ g p.1 {p.2 with rows:=dW p.2.rows (k.cells++[v]) fi})else none
 | .del m,[x,k]=>(ef g m x).bind fun p=>(fM m k p.2.rows).bind fun fi=>if p.2.w then some (bJ g p.1 {p.2 with rows:=ea p.2.rows fi})else none
 |_,_=>none
def eV (o:gu) (ρ:O->AV) (g:Rows) (id:Id):Option (AV×Option Row):=
 match o with
 | .cR x=>some (ρ x,none)
 | .pick c a b=>(di (ρ c) (ρ a) (ρ b)).map (·,none)
 | .new zero=>some (.ptr id 0 0,some ⟨true,zero.length,[zero.map K.av]⟩)
 | .box x=>(cU (ρ x)).map fun cs=>(.ptr id 0 0,some ⟨true,cs.length,[cs]⟩)
 | .build zero parts=>(cG (zero.map K.av) (parts.map fun(o,n,x)=>(o,n,ρ x))).map fun cs=>(.agg cs,none)
 | .kM sz len parts=>(rowsOf sz (parts.map ρ)).map fun rs=>(.own id 0 len,some ⟨true,sz,rs⟩)
 | .load agg n a=>(ld g agg n (ρ a)).map (·,none)
 | .AI x=>(er (ρ x)).map (·,none)
 | .bin op _ x y=>(ep op (ρ x) (ρ y)).map (·,none)
 | .sh left x y=>(iC left (ρ x) (ρ y)).map (·,none)
 | .KU op x y=>(dj op (ρ x) (ρ y)).map (·,none)
 | .NI neg t x y=>(gq t (ρ x) (ρ y)).map fun b=>(.bool (dz neg b),none)
 | .R4 neg ts x y=>match ρ x,ρ y with
  | .agg xs,.agg ys=>(fh ts xs ys).map fun b=>(.bool (dz neg b),none)
  |_,_=>none
 | .Qq neg LH x=>(ew LH (ρ x)).map fun b=>(.bool (dz neg b),none)
 | .R5 neg x=>(Kf (ρ x)).map fun b=>(.bool (dz neg b),none)
 | .not x=>(ez (ρ x)).map (·,none)
 | .neg x=>(ev (ρ x)).map (·,none)
 | .conv k x=>(cW k (ρ x)).map (·,none)
 | .EY x=>(cj (ρ x)).map (·,none)
 | .slice sz x lo hi=>(bV g sz (ρ x) (lo.map ρ) (hi.map ρ)).map (·,none)
 | .Ao x lo hi=>(bh (ρ x) (lo.map ρ) (hi.map ρ)).map (·,none)
 | .fR off x=>(EJ off (ρ x)).map (·,none)
 | .field agg off n x=>(bS agg off n (ρ x)).map (·,none)
 | .dF sz x i=>(bU g sz (ρ x) (ρ i)).map (·,none)
 | .LB len sz x i=>(cX len sz (ρ x) (ρ i)).map (·,none)
 | .LD x i=>(cZ (ρ x) (ρ i)).map (·,none)
 | .eL agg len n x i=>(cY agg len n (ρ x) (ρ i)).map (·,none)
 | .extract i x=>(aQ i (ρ x)).map (·,none)
 | .len x=>(eu (ρ x)).map fun(n:Nat)=>(AV.int .i64 (n:Int),none)
 | .LK x=>(db (ρ x)).map (·,none)
 | .LP f cH=>some (.fn f (cH.map ρ),none)
 | .LQ f first=>some (.sQ f (first.map ρ),none)
 | .jV zero l c=>(iA zero (ρ l) (ρ c)).map fun(n,r)=>(.own id 0 n,some r)
 | .mq q xs=>bG q (xs.map ρ) g id
 | .Jp x=>(dc (ρ x)).map fun n=>(.re id,some ⟨true,qj+n,[]⟩)
 | .Ji x=>(da g (ρ x)).map (·,none)
 |_=>none
def bz (g:Rows):AV->Option (List (List AV))
 | .cC=>some []
 | .sl rows=>some rows
 | .own id off len=>(g id).bind fun r=>if off+len<=r.rows.length then some ((r.rows.drop off).take len)else none
 |_=>none
def cN (cs:List AV) (off:Nat) (xs:List AV):List AV:=cs.take off++xs++cs.drop (off+xs.length)
def bW (g:Rows) (n:Nat) (v:AV):AV->Option Rows
 | .ptr id i off=>(g id).bind fun r=>(r.rows[i]?).bind fun cs=>
  if r.w/\v.cells.length=n/\v.cells.all AV.cell/\off+n<=cs.length then some (bJ g id {r with rows:=r.rows.set i (cN cs off v.cells)})else none
 |_=>none
def aX (g:Rows) (id:Id) (sz:Nat) (x:AV) (ys:List (List AV)):Option (AV×Rows):=
 match x with
 | .cC=>match ys with
  |[]=>some (.cC,g)
  |y::r=>if (y::r).length<=dL/\(y::r).all (fun c=>c.length==sz&&c.all AV.cell)then some (.own id 0 (y::r).length,bJ g id ⟨true,sz,y::r⟩)else none
 | .own i 0 len=>(g i).bind fun r=>
  if r.w/\r.sz=sz/\len=r.rows.length/\len+ys.length<=dL/\ys.all (fun c=>c.length==sz&&c.all AV.cell)then some (.own id 0 (len+ys.length),bJ (cr g i) id ⟨true,sz,r.rows++ys⟩)else none
 |_=>none
def FK (g:Rows) (sz:Nat) (x:AV) (ys:List (List AV)):Option (AV×Rows):=
 match x with
 | .own i off len=>(g i).bind fun r=>
  if r.w/\r.sz=sz/\off+len<=r.rows.length/\ys.all (fun c=>c.length==sz&&c.all AV.cell)then
   some (.int .i64 (min ys.length len:Nat),bJ g i {r with rows:=r.rows.take off++ys.take (min ys.length len)++r.rows.drop (off+min ys.length len)})else none
 |_=>none
def bR (g:Rows) (zero:List K) (x:AV):Option Rows:=
 match x with
 | .cC=>some g
 | .own i off len=>(g i).bind fun r=>
  if r.w/\r.sz=zero.length/\off+len<=r.rows.length then
   some (bJ g i {r with rows:=r.rows.take off++List.replicate len (zero.map K.av)++r.rows.drop (off+len)})else none
 |_=>none
def gw (o:gu) (ρ:O->AV) (g:Rows) (id:Id):Option (AV×Rows):=
 match o with
 | .store n a x=>(bW g n (ρ x) (ρ a)).map fun g'=>(.undef,g')
 | .append sz x y=>(bz g (ρ y)).bind fun ys=>aX g id sz (ρ x) ys
 | .copy sz x y=>(bz g (ρ y)).bind fun ys=>FK g sz (ρ x) ys
 | .clear zero x=>(bR g zero (ρ x)).map fun g'=>(.undef,g')
 | .mw q xs=>(bK q (xs.map ρ) g).map fun g'=>(.undef,g')
 |_=>none
def uZ:AV->List AV->Option (Nat×List AV)
 | .fn f cH,l=>some (f,l++cH)
 | .sQ f first,l=>some (f,first++l)
 |_,_=>none
abbrev fE:=Nat->List AV->au->(AV->au->Prop)->Prop
mutual
def fz (g:Rows):Nat->AV->Option AV
 |0,_=>none
 |n+1,a=>match a with
  | .own id off len=>match g id with
   |some r=>if r.w then(if off+len<=r.rows.length then(dV g n ((r.rows.drop off).take len)).map AV.sl else none)else none
   |none=>none
  | .ptr id i off=>match g id with
   |some r=>if r.w then(match r.rows[i]? with
    |some cs=>(cL g n (cs.drop off)).map AV.cQ
    |none=>none)else none
   |none=>none
  | .agg cs=>(cL g n cs).map AV.agg
  | .gP vs=>(cL g n vs).map AV.gP
  | .fn f cH=>if cH.all AV.cell then(cL g n cH).map (AV.fn f)else none
  | .map _ _| .sQ _ _| .re _=>none
  |v=>some v
 termination_by n _=>(n,0)
def cL (g:Rows):Nat->List AV->Option (List AV)
 |n,[]=>some []
 |n,a::r=>match fz g n a with
  |some b=>(cL g n r).map (b::·)
  |none=>none
 termination_by n l=>(n,l.length+1)
def dV (g:Rows):Nat->List (List AV)->Option (List (List AV))
 |n,[]=>some []
 |n,c::r=>match cL g n c with
  |some b=>(dV g n r).map (b::·)
  |none=>none
 termination_by n l=>(n,(l.map (fun c=>c.length+2)).sum+1)
 decreasing_by all_goals simp_wf;try omega
end
mutual
def gp (g:Rows):Nat->AV->Option AV
 |0,_=>none
 |n+1,a=>match a with
  | .own id off len=>match g id with
   |some r=>if r.w then(if off+len<=r.rows.length then(gY g n ((r.rows.drop off).take len)).map AV.sl else none)else none
   |none=>none
  | .ptr id i off=>match g id with
   |some r=>if r.w then(match r.rows[i]? with
    |some cs=>(eb g n (cs.drop off)).map AV.cQ
    |none=>none)else none
   |none=>none
  | .agg cs=>(eb g n cs).map AV.agg
  | .gP vs=>(eb g n vs).map AV.gP
  | .int k m=>some (.int k m)
  | .bool b=>some (.bool b)
  | .str s=>some (.str s)
  | .cC=>some .cC
  | .gN=>some .gN
  | .iU=>some .iU
  | .ji=>some .ji
  |_=>none
 termination_by n _=>(n,0)
def eb (g:Rows):Nat->List AV->Option (List AV)
 |n,[]=>some []
 |n,a::r=>match gp g n a with
  |some b=>(eb g n r).map (b::·)
  |none=>none
 termination_by n l=>(n,l.length+1)
def gY (g:Rows):Nat->List (List AV)->Option (List (List AV))
 |n,[]=>some []
 |n,c::r=>match eb g n c with
  |some b=>(gY g n r).map (b::·)
  |none=>none
 termination_by n l=>(n,(l.map (fun c=>c.length+2)).sum+1)
 decreasing_by all_goals simp_wf;try omega
end
def dX (g:Rows):Rows:=fun id=>(g id).map fun r=>{r with w:=true}
def PC (X:fE) (f:Nat) (args:List AV) (σ:au) (K:AV->Prop):Prop:=
 X f args ⟨ro σ.get,σ.next⟩ fun r σ'=>∃r',fz σ'.get 6 r=some r'/\K r'
def PCv (X:fE) (f:Nat) (args:List AV) (σ:au) (K:AV->Prop):Prop:=
 ∃eK,cL (dX σ.get) 6 args=some eK/\X f eK ⟨fun _=>none,σ.next⟩ fun r σ'=>∃r',gp σ'.get 6 r=some r'/\K r'
def gz (X:fE) (f:Nat) (args:List AV) (σ:au) (K:AV->Prop):Prop:=PC X f args σ K∨PCv X f args σ K
def aL (g:Option (Nat×Bool)) (env:Env):Bool:=
 match g with
 |none=>true
 |some (t,b)=>match env t with
  | .bool c=>c==b
  |_=>false
def AV.plain:AV->Bool
 | .int .. | .bool _| .str _| .cC| .gN| .iU| .ji=>true
 |_=>false
def CM (X:fE) (f:Nat) (args:List AV) (σ:au) (sz:Nat) (rows:List (List AV)):Prop:=
 (∀c∈rows,∀a∈c,a.plain=true)/\∃eK,cL (dX σ.get) 6 args=some eK/\X f eK ⟨fun _=>none,σ.next⟩ fun r σ'=>∃id,r=.own id 0 rows.length/\σ'.get id=some ⟨true,sz,rows⟩
def cJ (X:fE) (draw:Bool) (hid:List Nat) (site:Nat) (f:Nat) (args:List AV) (σ:au) (next:AV->au->Prop):Prop:=
 (∃r,gz X f args ⟨gr hid σ.next σ.get,σ.next+1⟩ (fun r'=>r'=r)/\next r σ)∨
 (draw=false/\X f args ⟨σ.get,σ.next+1⟩ next)∨
 (hid.contains site=true/\∃sz rows,CM X f args ⟨gr hid σ.next σ.get,σ.next+1⟩ sz rows/\next (.own ⟨site,σ.next⟩ 0 rows.length) ⟨bJ σ.get ⟨site,σ.next⟩ ⟨true,sz,rows⟩,σ.next⟩)
def fU (X:fE) (draw:Bool) (o:aY) (env:Env) (σ:au) (next:AV->au->Prop):Prop:=
 match o.op with
 | .call f args=>cJ X draw o.hid o.site f (args.map (cK env)) σ next
 | .tj x args=>match cK env x with
  | .fn f cH=>cJ X draw o.hid o.site f (args.map (cK env)++cH) σ next
  | .sQ f first=>cJ X draw o.hid o.site f (first++args.map (cK env)) σ next
  |_=>False
 | .store .. | .append .. | .copy .. | .clear .. | .mw .. =>match gw o.op (cK env) σ.get ⟨o.site,σ.next⟩with
  |some (v,g)=>next v ⟨g,σ.next⟩
  |none=>False
 |_=>match eV o.op (cK env) (gr o.hid σ.next σ.get) ⟨o.site,σ.next⟩with
  |some (v,some r)=>next v ⟨bJ σ.get ⟨o.site,σ.next⟩ r,σ.next⟩
  |some (v,none)=>next v σ
  |none=>False
def wpOps (X:fE) (draw:Bool):List aY->(Env->au->Prop)->Env->au->Prop
 |[],K,env,σ=>K env ⟨σ.get,σ.next+1⟩
 |o::r,K,env,σ=>
  if aL o.guard env then fU X draw o env σ fun v σ'=>wpOps X draw r K (upd env o.dst v) σ'
  else wpOps X draw r K (upd env o.dst .undef) σ
def cD:List aY->(Env->au->Prop)->Env->au->Prop
 |[],K,env,σ=>K env ⟨σ.get,σ.next+1⟩
 |o::r,K,env,σ=>o.guard=none/\match o.op with
  | .snd x y=>match eB σ.get (cK env x) (cK env y)with
   |some g=>cD r K (upd env o.dst .undef) ⟨g,σ.next⟩
   |none=>False
  | .OS x=>match eA σ.get (cK env x)with
   |some (v,g)=>cD r K (upd env o.dst v) ⟨g,σ.next⟩
   |none=>False
  |op=>match eV op (cK env) σ.get ⟨o.site,σ.next⟩with
   |some (v,none)=>cD r K (upd env o.dst v) σ
   |_=>False
def dn (next:Env->au->Prop) (Q:Ex->Env->au->Prop):Ex->Env->au->Prop
 | .normal=>next
 |e=>Q e
def aZ (id:Nat) (Q:Ex->Env->au->Prop):Ex->Env->au->Prop
 | .exit jU=>if jU=id then Q .normal else Q (.exit jU)
 |e=>Q e
def Fx (W:(Ex->Env->au->Prop)->Env->au->Prop) (Q:Ex->Env->au->Prop):Nat->Env->au->Prop
 |0=>fun _ _=>False
 |n+1=>W (dn (Fx W Q n) Q)
def LL (t s:Nat) (y:O) (env:Env) (n:Nat):Prop:=(∃len,env t=.own ⟨s,n⟩ 0 len)/\∀id o l,cK env y=.own id o l->id.bq≠n
def dG (X:fE):VC->(Ex->Env->au->Prop)->Env->au->Prop
 | .skip,Q=>Q .normal
 | .ej draw ops,Q=>wpOps X draw ops (Q .normal)
 | .seq a b,Q=>dG X a (dn (dG X b Q) Q)
 | .cond c x y,Q=>fun env σ=>match cK env c with
  | .bool b=>if b then dG X x Q env σ else dG X y Q env σ
  |_=>False
 | .block id c,Q=>dG X c (aZ id Q)
 | .loop c,Q=>fun env σ=>∃n,Fx (dG X c) Q n env σ
 | .exit id,Q=>Q (.exit id)
 | .ret,Q=>Q .ret
 | .one o c,Q=>fun env σ=>if aL o.guard env then fU X false o env σ fun v σ'=>dG X c Q (upd env o.dst v) σ' else dG X c Q (upd env o.dst .undef) σ
 | .both a b,Q=>fun env σ=>dG X a Q env σ/\dG X b Q env σ
 | .loc t s y c,Q=>fun env σ=>LL t s y env σ.next/\dG X c Q env σ
 | .NB ops,Q=>cD ops (Q .normal)
def ig (env:Env) (g:Rows):nI->Option AV
 | .tmp t=>some (env t)
 | .cell agg n t=>ld g agg n (env t)
def fm (env:Env) (g:Rows):List nI->Option (List AV)
 |[]=>some []
 |r::l=>(ig env g r).bind fun v=>(fm env g l).map (v::·)
def fA:List AV->AV
 |[v]=>v
 |l=>.gP l
def cw (args:List AV):Env:=fun t=>args.getD t .undef
def ku (res:List nI) (K:AV->au->Prop):Ex->Env->au->Prop
 | .exit _,_,_=>False
 |_,env,σ=>∃vs,fm env σ.get res=some vs/\K (fA vs) σ
end Go.Proofs.YtgoelphibofcmaaGreat.V

namespace Go.Proofs.YtgoelphibofcmaaGreat.V
open Go.RowKit
inductive jF (P:Program) (w:World) (D:Nat->Prop):AV->Value->Prop
 |int (k n):jF P w D (.int k n) (.int k n)
 |bool (b):jF P w D (.bool b) (.bool b)
 |str (s):jF P w D (.str s) (.string s)
 |cC:jF P w D .cC (.slice none 0 0)
 |gN:jF P w D .gN (.pointer none)
 |iU:jF P w D .iU .nilFunc
 |AP (a c):c<=maxLen->jF P w D (.sl []) (.slice a 0 c)
 |sl (rows b o n c sz) (vs:Nat->Nat->Value):rows.length=n->n<=c->c<=maxLen->D b->(∀cs∈rows,cs.length=sz)->(∀cs∈rows,∀a∈cs,a.cell=true)->
   (∀i j,i<n->j<sz->w.cell? ⟨b,o+(i*sz+j),none⟩=some (vs i j))->
   (∀i j cs a,rows[i]? =some cs->cs[j]? =some a->jF P w D a (vs i j))->jF P w D (.sl rows) (.slice (some ⟨b,o,none⟩) n c)
 |cQ (cs b o) (vs:Nat->Value):D b->(∀a∈cs,a.cell=true)->(∀j,j<cs.length->w.cell? ⟨b,o+j,none⟩=some (vs j))->
   (∀j a,cs[j]? =some a->jF P w D a (vs j))->jF P w D (.cQ cs) (.pointer (some ⟨b,o,none⟩))
 |agg (cs) (vs:Array Value) (f:Nat->Value):vs.size=cs.length->(∀a∈cs,a.cell=true)->(∀j,j<cs.length->vs[j]? =some (f j))->(∀j a,cs[j]? =some a->jF P w D a (f j))->jF P w D (.agg cs) (.agg vs)
 |fn (f cH) (vs:Array Value) (g:Nat->Value):fJ P f=true->vs.size=cH.length->(∀j,j<cH.length->vs[j]? =some (g j))->(∀j a,cH[j]? =some a->jF P w D a (g j))->jF P w D (.fn f cH) (.func (.func f) #[] vs)
 |ji:jF P w D .ji (.map none)
inductive BK where
 |map (m:MK)
 |chan (cap:Nat)
structure sa where
 b:Nat
 sz:Nat
 C:Nat
 k:Option BK
abbrev Names:=Id->Option sa
inductive cE (P:Program) (w:World) (D:Nat->Prop) (ι:Names):AV->Value->Prop
 |eP (a v):jF P w D a v->cE P w D ι a v
 |own (id off len o cap B):ι id=some B->B.k=none->len<=cap->(cap=0∨o=off*B.sz)->(off+cap)*B.sz<=B.C->cap<=maxLen->cE P w D ι (.own id off len) (.slice (some ⟨B.b,o,none⟩) len cap)
 |ptr (id i off B):ι id=some B->B.k=none->cE P w D ι (.ptr id i off) (.pointer (some ⟨B.b,i*B.sz+off,none⟩))
 |agg (cs) (vs:Array Value) (f:Nat->Value):vs.size=cs.length->(∀a∈cs,a.cell=true)->(∀j,j<cs.length->vs[j]? =some (f j))->(∀j a,cs[j]? =some a->cE P w D ι a (f j))->cE P w D ι (.agg cs) (.agg vs)
 |gP (cs) (vs:Array Value) (f:Nat->Value):vs.size=cs.length->(∀j,j<cs.length->vs[j]? =some (f j))->(∀j a,cs[j]? =some a->cE P w D ι a (f j))->cE P w D ι (.gP cs) (.tuple vs)
 |fn (f cH) (vs:Array Value) (g:Nat->Value):fJ P f=true->vs.size=cH.length->(∀j,j<cH.length->vs[j]? =some (g j))->(∀j a,cH[j]? =some a->cE P w D ι a (g j))->cE P w D ι (.fn f cH) (.func (.func f) #[] vs)
 |re (id c B):ι id=some B->B.k=some (.chan c)->cE P w D ι (.re id) (.chan (some B.b))
 |map (id m B):ι id=some B->B.k=some (.map m)->cE P w D ι (.map id m) (.map (some B.b))
 |sQ (f cH) (vs:Array Value) (g:Nat->Value):fJ P f=true->vs.size=cH.length->(∀j,j<cH.length->vs[j]? =some (g j))->(∀j a,cH[j]? =some a->cE P w D ι a (g j))->cE P w D ι (.sQ f cH) (.func (.func f) vs #[])
variable {P:Program} {w w':World} {D D':Nat->Prop} {ι ι':Names}
theorem jF.frame (hD:∀b,D b->w'.heap[b]? =w.heap[b]?) (hs:∀b,D b->D' b) {a:AV} {v:Value} (h:jF P w D a v):jF P w' D' a v:=by
 induction h with
 |int k n=>exact .int k n
 |bool b=>exact .bool b
 |str s=>exact .str s
 |cC=>exact .cC
 |gN=>exact .gN
 |iU=>exact .iU
 |ji=>exact .ji
 |AP a c h=>exact .AP a c h
 |sl rows b o n c sz vs h1 h2 h3 h4 h5 h5' h6 _ ih=>exact .sl rows b o n c sz vs h1 h2 h3 (hs b h4) h5 h5' (fun i j hi hj=>(World.cell?_of_block (hD b h4)).trans (h6 i j hi hj)) ih
 |cQ cs b o vs h1 NQ h2 _ ih=>exact .cQ cs b o vs (hs b h1) NQ (fun j hj=>(World.cell?_of_block (hD b h1)).trans (h2 j hj)) ih
 |agg cs vs f h1 h2 h3 _ ih=>exact .agg cs vs f h1 h2 h3 ih
 |fn f cH vs g h1 h2 h3 _ ih=>exact .fn f cH vs g h1 h2 h3 ih
theorem cE.frame (hD:∀b,D b->w'.heap[b]? =w.heap[b]?) (hs:∀b,D b->D' b) (hι:∀id B,ι id=some B->ι' id=some B) {a:AV} {v:Value} (h:cE P w D ι a v):cE P w' D' ι' a v:=by
 induction h with
 |eP a v h=>exact .eP a v (h.frame hD hs)
 |map id m B h1 h2=>exact .map id m B (hι _ _ h1) h2
 |re id c B h1 h2=>exact .re id c B (hι _ _ h1) h2
 |own id off len o cap B h1 h2 h3 h4 h5 h6=>exact .own id off len o cap B (hι _ _ h1) h2 h3 h4 h5 h6
 |ptr id i off B h1 h2=>exact .ptr id i off B (hι _ _ h1) h2
 |agg cs vs f h1 h2 h3 _ ih=>exact .agg cs vs f h1 h2 h3 ih
 |gP cs vs f h1 h2 _ ih=>exact .gP cs vs f h1 h2 ih
 |fn f cH vs g h1 h2 h3 _ ih=>exact .fn f cH vs g h1 h2 h3 ih
 |sQ f cH vs g h1 h2 h3 _ ih=>exact .sQ f cH vs g h1 h2 h3 ih
theorem cE.undef:cE P w D ι .undef Go.undef:=.gP [] #[] (fun _=>Go.undef) rfl (fun j hj=>by simp at hj) (fun j a h=>by simp at h)
theorem wD (c:K):cE P w D ι c.av c.val:=by
 cases c with
 |int k n=>exact .eP _ _ (.int k n)
 |bool b=>exact .eP _ _ (.bool b)
 |str l=>exact .eP _ _ (.str _)
 |cC=>exact .eP _ _ .cC
 |gN=>exact .eP _ _ .gN
 |iU=>exact .eP _ _ .iU
 |ji=>exact .eP _ _ .ji
theorem K.mM (c:K):c.av.cell=true:=by cases c<;>rfl
theorem zH {v:Value} {c:K} (h:Gx v=some c):v=c.val:=by
 unfold Gx at h
 split at h<;>simp at h<;>subst h<;>rfl
theorem cE.A9 {a:AV} {v:Value} (h:cE P w D ι a v) (hc:a.cell=true):v.cells= #[v]/\(∀vs,v≠.agg vs)/\(∀vs,v≠.tuple vs):=by
 cases h with
 |eP a v h=>cases h<;>simp_all [AV.cell,Value.cells]
 |own=>simp[Value.cells]
 |map=>simp[Value.cells]
 |re=>simp[Value.cells]
 |ptr=>simp[Value.cells]
 |agg=>simp[AV.cell]at hc
 |gP=>simp[AV.cell]at hc
 |fn=>simp[Value.cells]
 |sQ=>simp[Value.cells]
theorem cE.cells {a:AV} {v:Value} (h:cE P w D ι a v) (ha:a.cells.all AV.cell=true):v.cells.size=a.cells.length/\∃f:Nat->Value,(∀j,j<a.cells.length->v.cells[j]? =some (f j))/\∀j x,a.cells[j]? =some x->cE P w D ι x (f j):=by
 have one:∀(a:AV) (v:Value),a.cell=true->a.cells=[a]->cE P w D ι a v->v.cells.size=a.cells.length/\∃f:Nat->Value,(∀j,j<a.cells.length->v.cells[j]? =some (f j))/\∀j x,a.cells[j]? =some x->cE P w D ι x (f j):=by
  intro a v hc dw h
  obtain⟨h1,_,_⟩:=h.A9 hc
  rw[h1,dw]
  refine⟨rfl,fun _=>v,fun j hj=>?_,fun j x hx=>?_⟩
  ·have:j=0:=by simp at hj;omega
   subst this;rfl
  ·cases j with
   |zero=>simp at hx;subst hx;exact h
   |succ j=>simp at hx
 cases h with
 |eP a v h=>
  cases h with
  |agg cs vs f h1 h2 h3 h4=>exact⟨h1,f,h3,fun j x hx=>.eP _ _ (h4 j x hx)⟩
  |_=>exact one _ _ rfl rfl (.eP _ _ (by constructor<;>assumption))
 |own id off len o cap B h1 h2 h3 h4 h5 h6=>exact one _ _ rfl rfl (.own id off len o cap B h1 h2 h3 h4 h5 h6)
 |ptr id i off B h1 h2=>exact one _ _ rfl rfl (.ptr id i off B h1 h2)
 |map id m B h1 h2=>exact one _ _ rfl rfl (.map id m B h1 h2)
 |re id c B h1 h2=>exact one _ _ rfl rfl (.re id c B h1 h2)
 |agg cs vs f h1 h2 h3 h4=>exact⟨h1,f,h3,h4⟩
 |gP cs vs f h1 h2 h3=>simp[AV.cells,AV.cell]at ha
 |fn f cH vs g h1 h2 h3 h4=>exact one _ _ rfl rfl (.fn f cH vs g h1 h2 h3 h4)
 |sQ f cH vs g h1 h2 h3 h4=>exact one _ _ rfl rfl (.sQ f cH vs g h1 h2 h3 h4)
structure ly (P:Program) (w:World) (D:Nat->Prop) (ι:Names) (B:sa) (r:Row):Prop where
 sz:B.sz=r.sz
 xn:∃cells T,w.heap[B.b]? =some (.cells cells T (0,0))/\cells.size=B.C
 fits:r.rows.length*r.sz<=B.C
 len:∀cs∈r.rows,cs.length=r.sz
 flat:∀cs∈r.rows,∀a∈cs,a.cell=true
 at_:∀i j cs a,r.rows[i]? =some cs->cs[j]? =some a->∃v,w.cell? ⟨B.b,i*r.sz+j,none⟩=some v/\cE P w D ι a v
def KM (es:Array MapEntry) (clock:Nat):Prop:=(∀x∈es.toList,x.born<clock)/\(es.toList.map (·.born)).Nodup
def Mx (P:Program) (w:World) (D:Nat->Prop) (ι:Names) (B:sa) (m:MK) (r:Row):Prop:=
 ∃(es:Array MapEntry) (clock:Nat),w.heap[B.b]? =some (.map es clock)/\es.size=r.rows.length/\((∀cs∈r.rows,cs.length=m.ks+1)/\KM es clock)/\
  ∀(i:Nat) (cs:List AV),r.rows[i]? =some cs->∃(e:MapEntry) (kv vv:AV),es[i]? =some e/\part m.ka m.ks cs=some kv/\cs[m.ks]? =some vv/\cE P w D ι kv e.key/\cE P w D ι vv e.val
def HM (P:Program) (w:World) (D:Nat->Prop) (ι:Names) (B:sa) (c:Nat) (r:Row):Prop:=
 ∃(buf:Array Value) (s q:Nat),w.heap[B.b]? =some (.chan c buf false s q false)/\buf.size=r.rows.length/\
  ∀(i:Nat) (cs:List AV),r.rows[i]? =some cs->∃(a:AV) (u:Value),cs=[a]/\buf[i]? =some u/\cE P w D ι a u
structure gI (P:Program) (w:World) (D:Nat->Prop) (ι:Names) (B:sa) (r:Row):Prop where
 sz:B.sz=r.sz
 flat:∀cs∈r.rows,∀a∈cs,a.cell=true
 row:B.k=none->ly P w D ι B r
 map:∀m,B.k=some (.map m)->r.sz=m.nS/\Mx P w D ι B m r
 chan:∀c,B.k=some (.chan c)->r.sz=qj+c/\HM P w D ι B c r
theorem ly.obj {B:sa} {r:Row} (R:ly P w D ι B r) (h:B.k=none):gI P w D ι B r:=⟨R.sz,R.flat,fun _=>R,fun m hm=>(by rw[h]at hm;cases hm),fun m hm=>by rw[h]at hm;cases hm⟩
theorem gI.flag {B:sa} {r:Row} (R:gI P w D ι B r) (b:Bool):gI P w D ι B {r with w:=b}:=⟨R.sz,R.flat,fun h=>⟨R.sz,(R.row h).xn,(R.row h).fits,(R.row h).len,R.flat,(R.row h).at_⟩,R.map,R.chan⟩
theorem gI.cells {B:sa} {r:Row} (R:gI P w D ι B r) (h:r.sz<rI):B.k=none:=by
 cases hk:B.k with
 |none=>rfl
 |some m=>
  cases m with
  |map m=>
   have h1:=(R.map m hk).1
   unfold MK.nS at h1
   omega
  |chan c=>
   have h1:=(R.chan c hk).1
   unfold qj at h1
   unfold rI at h
   omega
theorem gI.LS {B:sa} {r:Row} (R:gI P w D ι B r) {c:Array Value} {T:TypeId} {z:Nat×Nat} (h:w.heap[B.b]? =some (.cells c T z)):B.k=none:=by
 cases hk:B.k with
 |none=>rfl
 |some m=>
  cases m with
  |map m=>obtain⟨_,es,c,h3,_⟩:=R.map m hk;rw[h]at h3;cases h3
  |chan c=>obtain⟨_,buf,s,q,h3,_⟩:=R.chan c hk;rw[h]at h3;cases h3
theorem gI.lt {B:sa} {r:Row} (R:gI P w D ι B r):B.b<w.heap.size:=by
 cases h:B.k with
 |none=>
  obtain⟨c,T,h3,_⟩:=(R.row h).xn
  exact(Array.getElem?_eq_some_iff.1 h3).1
 |some m=>
  cases m with
  |map m=>obtain⟨_,es,c,h3,_⟩:=R.map m h;exact(Array.getElem?_eq_some_iff.1 h3).1
  |chan c=>obtain⟨_,buf,s,q,h3,_⟩:=R.chan c h;exact(Array.getElem?_eq_some_iff.1 h3).1
structure gn (P:Program) (hs:Nat) (D:Nat->Prop) (ι:Names) (g:Rows) (w:World):Prop where
 lo:hs<=w.heap.size
 dead:∀b,D b->b<w.heap.size
 row:∀id r,g id=some r->∃B,ι id=some B/\gI P w D ι B r/\(r.w=true->hs<=B.b)/\(r.w=true->¬D B.b)
 inj:∀id jU r r' B B',g id=some r->g jU=some r'->r.w=true->ι id=some B->ι jU=some B'->B.b=B'.b->id=jU
def Used (ι:Names) (n:Nat) (U:Nat->Prop):Prop:=∀id,ι id≠none->id.bq<n∨(id.bq=n/\U id.site)
structure Step (hs:Nat) (D:Nat->Prop) (ι:Names) (w:World) (D':Nat->Prop) (ι':Names) (w':World):Prop where
 below:Below hs w w'
 qx:∀b,D b->w'.heap[b]? =w.heap[b]?
 dead:∀b,D b->D' b
 names:∀id B,ι id=some B->ι' id=some B
 new:∀b,D' b->D b∨hs<=b
theorem Step.refl (hs:Nat) (D:Nat->Prop) (ι:Names) (w:World):Step hs D ι w D ι w:=⟨Below.refl _ _,fun _ _=>rfl,fun _ h=>h,fun _ _ h=>h,fun _ h=>.inl h⟩
theorem Step.trans {hs:Nat} {D D' D'':Nat->Prop} {ι ι' RZ:Names} {w w' KH:World} (h:Step hs D ι w D' ι' w') (k:Step hs D' ι' w' D'' RZ KH):Step hs D ι w D'' RZ KH:=
 ⟨h.below.trans k.below,fun b hb=>(k.qx b (h.dead b hb)).trans (h.qx b hb),fun b hb=>k.dead b (h.dead b hb),fun id B hB=>k.names id B (h.names id B hB),fun b hb=>by
  rcases k.new b hb with hb|hb
  ·exact h.new b hb
  ·exact .inr hb⟩
theorem Step.rep {hs:Nat} {D D':Nat->Prop} {ι ι':Names} {w w':World} (h:Step hs D ι w D' ι' w') {a:AV} {v:Value} (hr:cE P w D ι a v):cE P w' D' ι' a v:=hr.frame h.qx h.dead h.names
theorem dr {k n} {v:Value} (h:cE P w D ι (.int k n) v):v=.int k n:=by
 cases h with
 |eP _ _ h=>cases h;rfl
theorem e9 {b} {v:Value} (h:cE P w D ι (.bool b) v):v=.bool b:=by
 cases h with
 |eP _ _ h=>cases h;rfl
theorem fC {s} {v:Value} (h:cE P w D ι (.str s) v):v=.string s:=by
 cases h with
 |eP _ _ h=>cases h;rfl
theorem j6 {v:Value} (h:cE P w D ι .cC v):v=.slice none 0 0:=by
 cases h with
 |eP _ _ h=>cases h;rfl
theorem wE {v:Value} (h:cE P w D ι .iU v):v=.nilFunc:=by
 cases h with
 |eP _ _ h=>cases h;rfl
theorem iP {cs} {v:Value} (h:cE P w D ι (.agg cs) v):∃(vs:Array Value) (f:Nat->Value),v=.agg vs/\vs.size=cs.length/\(∀a∈cs,a.cell=true)/\(∀j,j<cs.length->vs[j]? =some (f j))/\∀j a,cs[j]? =some a->cE P w D ι a (f j):=by
 cases h with
 |eP _ _ h=>
  cases h with
  |agg cs vs f h1 h2 h3 h4=>exact⟨vs,f,rfl,h1,h2,h3,fun j a h=>.eP _ _ (h4 j a h)⟩
 |agg cs vs f h1 h2 h3 h4=>exact⟨vs,f,rfl,h1,h2,h3,h4⟩
theorem uF {cs} {v:Value} (h:cE P w D ι (.gP cs) v):∃(vs:Array Value) (f:Nat->Value),v=.tuple vs/\vs.size=cs.length/\(∀j,j<cs.length->vs[j]? =some (f j))/\∀j a,cs[j]? =some a->cE P w D ι a (f j):=by
 cases h with
 |eP _ _ h=>cases h
 |gP cs vs f h1 h2 h3=>exact⟨vs,f,rfl,h1,h2,h3⟩
theorem Ae {f cH} {v:Value} (h:cE P w D ι (.fn f cH) v):∃(vs:Array Value) (g:Nat->Value),v=.func (.func f) #[] vs/\fJ P f=true/\vs.size=cH.length/\(∀j,j<cH.length->vs[j]? =some (g j))/\∀j a,cH[j]? =some a->cE P w D ι a (g j):=by
 cases h with
 |eP _ _ h=>
  cases h with
  |fn f cH vs g h1 h2 h3 h4=>exact⟨vs,g,rfl,h1,h2,h3,fun j a h=>.eP _ _ (h4 j a h)⟩
 |fn f cH vs g h1 h2 h3 h4=>exact⟨vs,g,rfl,h1,h2,h3,h4⟩
theorem JE {v:Value} (h:cE P w D ι .gN v):v=.pointer none:=by
 cases h with
 |eP _ _ h=>cases h;rfl
theorem Cp {v:Value} (h:cE P w D ι .ji v):v=.map none:=by
 cases h with
 |eP _ _ h=>cases h;rfl
theorem L9 {f cH} {v:Value} (h:cE P w D ι (.sQ f cH) v):∃(vs:Array Value) (g:Nat->Value),v=.func (.func f) vs #[]/\fJ P f=true/\vs.size=cH.length/\(∀j,j<cH.length->vs[j]? =some (g j))/\∀j a,cH[j]? =some a->cE P w D ι a (g j):=by
 cases h with
 |eP _ _ h=>cases h
 |sQ f cH vs g h1 h2 h3 h4=>exact⟨vs,g,rfl,h1,h2,h3,h4⟩
theorem iQ {id off len} {v:Value} (h:cE P w D ι (.own id off len) v):∃o cap B,v=.slice (some ⟨B.b,o,none⟩) len cap/\ι id=some B/\len<=cap/\(cap=0∨o=off*B.sz)/\(off+cap)*B.sz<=B.C/\cap<=maxLen/\B.k=none:=by
 cases h with
 |eP _ _ h=>cases h
 |own id off len o cap B h1 h2 h3 h4 h5 h6=>exact⟨o,cap,B,rfl,h1,h3,h4,h5,h6,h2⟩
theorem iy {id i off} {v:Value} (h:cE P w D ι (.ptr id i off) v):∃B,v=.pointer (some ⟨B.b,i*B.sz+off,none⟩)/\ι id=some B/\B.k=none:=by
 cases h with
 |eP _ _ h=>cases h
 |ptr id i off B h1 h2=>exact⟨B,rfl,h1,h2⟩
theorem L7 {id} {v:Value} (h:cE P w D ι (.re id) v):∃B c,v=.chan (some B.b)/\ι id=some B/\B.k=some (.chan c):=by
 cases h with
 |eP _ _ h=>cases h
 |re id c B h1 h2=>exact⟨B,c,rfl,h1,h2⟩
theorem FE {id m} {v:Value} (h:cE P w D ι (.map id m) v):∃B,v=.map (some B.b)/\ι id=some B/\B.k=some (.map m):=by
 cases h with
 |eP _ _ h=>cases h
 |map id m B h1 h2=>exact⟨B,rfl,h1,h2⟩
theorem kZ {cs} {v:Value} (h:cE P w D ι (.cQ cs) v):∃b o,∃vs:Nat->Value,v=.pointer (some ⟨b,o,none⟩)/\D b/\(∀a∈cs,a.cell=true)/\(∀j,j<cs.length->w.cell? ⟨b,o+j,none⟩=some (vs j))/\∀j a,cs[j]? =some a->jF P w D a (vs j):=by
 cases h with
 |eP _ _ h=>
  cases h with
  |cQ cs b o vs h1 h2 h3 h4=>exact⟨b,o,vs,rfl,h1,h2,h3,h4⟩
theorem wG {rows} {v:Value} (h:cE P w D ι (.sl rows) v):∃A c,v=.slice A rows.length c/\rows.length<=c/\c<=maxLen/\
  (rows=[]∨∃b o sz,∃vs:Nat->Nat->Value,A=some ⟨b,o,none⟩/\D b/\(∀cs∈rows,cs.length=sz)/\(∀cs∈rows,∀a∈cs,a.cell=true)/\
   (∀i j,i<rows.length->j<sz->w.cell? ⟨b,o+(i*sz+j),none⟩=some (vs i j))/\∀i j cs a,rows[i]? =some cs->cs[j]? =some a->jF P w D a (vs i j)):=by
 cases h with
 |eP _ _ h=>
  cases h with
  |AP a c h=>exact⟨a,c,rfl,Nat.zero_le _,h,.inl rfl⟩
  |sl rows b o n c sz vs h1 h2 h3 h4 h5 h5' h6 h7=>subst h1;exact⟨_,c,rfl,h2,h3,.inr ⟨b,o,sz,vs,rfl,h4,h5,h5',h6,h7⟩⟩
inductive eC:AV->Prop
 |int (k n):eC (.int k n)
 |bool (b):eC (.bool b)
 |str (s):eC (.str s)
 |cC:eC .cC
 |gN:eC .gN
 |iU:eC .iU
 |sl (rows):rows.length<=maxLen->(∀cs∈rows,∀a∈cs,eC a)->eC (.sl rows)
 |own (id off len):eC (.own id off len)
 |ptr (id i off):eC (.ptr id i off)
 |cQ (cs):(∀a∈cs,eC a)->eC (.cQ cs)
 |agg (cs):(∀a∈cs,eC a)->eC (.agg cs)
 |gP (cs):(∀a∈cs,eC a)->eC (.gP cs)
 |fn (f cH):(∀a∈cH,eC a)->eC (.fn f cH)
 |map (id m):eC (.map id m)
 |re (id):eC (.re id)
 |ji:eC .ji
 |sQ (f cH):(∀a∈cH,eC a)->eC (.sQ f cH)
theorem eC.len {rows:List (List AV)} (h:eC (.sl rows)):rows.length<=9223372036854775807:=by
 cases h with
 |sl _ h _=>unfold maxLen at h;omega
theorem eC.cell {rows:List (List AV)} (h:eC (.sl rows)) {cs:List AV} (hc:cs∈rows) {a:AV} (ha:a∈cs):eC a:=by
 cases h with
 |sl _ _ h=>exact h cs hc a ha
theorem eC.Ns {cs:List AV} (h:eC (.agg cs)) {a:AV} (ha:a∈cs):eC a:=by
 cases h with
 |agg _ h=>exact h a ha
theorem eC.BR {cs:List AV} (h:eC (.cQ cs)) {a:AV} (ha:a∈cs):eC a:=by
 cases h with
 |cQ _ h=>exact h a ha
theorem oK {l:List AV} {p:AV->Prop} (h:∀(j:Nat) (a:AV),l[j]? =some a->p a):∀a∈l,p a:=fun a ha=>by
 obtain⟨j,hj,rfl⟩:=List.getElem_of_mem ha
 exact h j _ (List.getElem?_eq_getElem hj)
theorem jF.Jh {a:AV} {v:Value} (h:jF P w D a v):eC a:=by
 induction h with
 |int k n=>exact .int k n
 |bool b=>exact .bool b
 |str s=>exact .str s
 |cC=>exact .cC
 |gN=>exact .gN
 |iU=>exact .iU
 |ji=>exact .ji
 |AP a c h=>exact .sl [] (Nat.zero_le _) (fun cs h=>by cases h)
 |sl rows b o n c sz vs h1 h2 h3 h4 h5 h5' h6 _ ih=>
  exact .sl rows (by omega) fun cs dw a ha=>by
   obtain⟨i,hi,rfl⟩:=List.getElem_of_mem dw
   obtain⟨j,hj,rfl⟩:=List.getElem_of_mem ha
   exact ih i j _ _ (List.getElem?_eq_getElem hi) (List.getElem?_eq_getElem hj)
 |cQ cs b o vs h1 NQ h2 _ ih=>exact .cQ cs (oK ih)
 |agg cs vs f h1 h2 h3 _ ih=>exact .agg cs (oK ih)
 |fn f cH vs g h1 h2 h3 _ ih=>exact .fn f cH (oK ih)
theorem cE.Jh {a:AV} {v:Value} (h:cE P w D ι a v):eC a:=by
 induction h with
 |eP a v h=>exact h.Jh
 |own id off len o cap B=>exact .own _ _ _
 |ptr id i off B=>exact .ptr _ _ _
 |map id m B=>exact .map _ _
 |re id c B=>exact .re _
 |agg cs vs f h1 h2 h3 _ ih=>exact .agg cs (oK ih)
 |gP cs vs f h1 h2 _ ih=>exact .gP cs (oK ih)
 |fn f cH vs g h1 h2 h3 _ ih=>exact .fn f cH (oK ih)
 |sQ f cH vs g h1 h2 h3 _ ih=>exact .sQ f cH (oK ih)
end Go.Proofs.YtgoelphibofcmaaGreat.V

namespace Go.Proofs.YtgoelphibofcmaaGreat.V
open Go.RowKit
variable {P:Program} {w w':World} {D D':Nat->Prop} {ι ι':Names}
def bQ (P:Program) (w:World) (D:Nat->Prop) (ι:Names) (env:Env) (a:Act):Prop:=∀t,cE P w D ι (env t) (a.tmps.getD t undef)
theorem rG {vs:List Value} {cs:List K} (h:vs.mapM Gx=some cs):cs.length=vs.length/\∀(j:Nat) (c:K),cs[j]? =some c->vs[j]? =some c.val:=by
 induction vs generalizing cs with
 |nil=>simp at h;subst h;simp
 |cons v r ih=>
  simp only[List.mapM_cons,Option.bind_eq_bind,Option.bind_eq_some_iff]at h
  obtain⟨c,hc,pT,dw,h⟩:=h
  simp at h;subst h
  obtain⟨h1,h2⟩:=ih dw
  refine⟨by simp[h1],fun j d hd=>?_⟩
  cases j with
  |zero=>simp at hd ⊢;subst hd;exact zH hc
  |succ j=>simp at hd ⊢;exact h2 j d hd
theorem UG {vs:List Value} {cs:List K} (h:vs.mapM Gx=some cs):cE P w D ι (.agg (cs.map K.av)) (.agg vs.toArray):=by
 obtain⟨h1,h2⟩:=rG h
 refine .agg _ _ (fun j=>vs.getD j undef) (by simp[h1]) (fun a ha=>?_) (fun j hj=>?_) (fun j a ha=>?_)
 ·obtain⟨c,_,rfl⟩:=List.mem_map.1 ha;exact c.mM
 ·simp at hj;simp[List.getElem?_eq_getElem (show j<vs.length by omega)]
 ·simp only[List.getElem?_map,Option.map_eq_some_iff]at ha
  obtain⟨c,hc,rfl⟩:=ha
  rw[List.getD_eq_getElem?_getD,h2 j c hc];exact wD c
theorem dm {env:Env} {a:Act} {x:Operand} {y:O} (E:bQ P w D ι env a) (h:cO P x=some y):cE P w D ι (cK env y) (a.eval x):=by
 unfold cO at h
 split at h
 ·simp at h;subst h;exact E _
 ·simp only[Option.map_eq_some_iff]at h
  obtain⟨cs,dw,rfl⟩:=h
  have:=UG (P:=P) (w:=w) (D:=D) (ι:=ι) dw
  simpa[Act.eval,cK]using this
 ·simp only[Option.map_eq_some_iff]at h
  obtain⟨c,hc,rfl⟩:=h
  simp only[Act.eval,cK]
  rw[zH hc];exact wD c
 ·simp at h
 ·split at h
  ·rename_i hc
   simp at h;subst h
   simp only[Act.eval,cK]
   exact .fn _ _ _ (fun _=>undef) hc rfl (fun j hj=>by simp at hj) (fun j a h=>by simp at h)
  ·simp at h
def oh (P:Program) (a:Act) (o:Oper) (w:World) (D:Nat->Prop) (ι:Names) (v:AV):Prop:=∃u,(execOp a.eval o).run P w=.ok (.value u) w/\cE P w D ι v u
section
variable {g:Rows} {hs:Nat} {env:Env} {a:Act} {o:Oper} {id:Id} {v:AV}
theorem Nh {x:Operand} {y:O} (E:bQ P w D ι env a) (ho:o.op=.move x∨o.op=.assign x) (hx:cO P x=some y):oh P a o w D ι (cK env y):=by
 refine⟨a.eval x,?_,dm E hx⟩
 rcases ho with h|h<;>simp[execOp,h,go_sem]
theorem Pt {c x y:Operand} {c' x' y':O} (E:bQ P w D ι env a) (ho:o.op=.pick c x y) (hc:cO P c=some c') (hx:cO P x=some x') (hy:cO P y=some y') (hv:di (cK env c') (cK env x') (cK env y')=some v):oh P a o w D ι v:=by
 unfold di at hv
 split at hv
 ·rename_i b hb
  simp at hv;subst hv
  have h1:=e9 (hb▸dm E hc)
  refine⟨if b then a.eval x else a.eval y,by simp only[execOp,ho,h1,asBool];rfl,?_⟩
  cases b
  ·exact dm E hy
  ·exact dm E hx
 ·simp at hv
theorem RM {op:BinOp} {x y:Operand} {x' y':O} {t yt:TypeId} (E:bQ P w D ι env a) (ho:o.op=.binOp op t x y yt) (he:op≠.eql) (hn:op≠.neq) (hx:cO P x=some x') (hy:cO P y=some y') (hv:ep op (cK env x') (cK env y')=some v):oh P a o w D ι v:=by
 unfold ep at hv
 split at hv
 ·rename_i k n k' m hb sG
  split at hv
  ·rename_i hk
   subst hk
   have h1:=dr (hb▸dm E hx)
   have h2:=dr (sG▸dm E hy)
   have key:∀u,(binOp op t (.int k n) (.int k m)).run P w=.ok u w->(execOp a.eval o).run P w=.ok (.value u) w:=fun u hu=>by
    have e0:eqGuard op t x y (.int k n) (.int k m)=pure ():=by unfold eqGuard;cases op<;>rfl
    simp only[execOp,ho,h1,h2,e0]
    simp[go_sem,hu]
   cases op<;>simp only[dK]at hv<;>(try(simp at hv;done))<;>(try split at hv)<;>(try(simp at hv;done))<;>simp only[Option.some.injEq]at hv<;>subst hv<;>
    (refine⟨_,key _ (by simp only[binOp,ne_eq,not_true_eq_false,if_false,Op.intArith,Op.intDiv,Op.intBits,Op.intCmp, *];rfl),?_⟩)<;>
    first
     |exact .eP _ _ (.int _ _)
     |exact .eP _ _ (.bool _)
  ·simp at hv
 ·simp at hv
theorem Pc {op:BinOp} {x y:Operand} {x' y':O} {t yt:TypeId} (E:bQ P w D ι env a) (ho:o.op=.binOp op t x y yt) (he:op≠.eql) (hn:op≠.neq) (hx:cO P x=some x') (hy:cO P y=some y') (hv:dj op (cK env x') (cK env y')=some v):oh P a o w D ι v:=by
 unfold dj at hv
 split at hv
 ·rename_i n m hb sG
  have h1:=fC (hb▸dm E hx)
  have h2:=fC (sG▸dm E hy)
  cases op<;>simp only[eF]at hv<;>(try(simp at hv;done))
  case add=>
   split at hv
   ·rename_i hl
    simp only[Option.some.injEq]at hv;subst hv
    exact⟨_,by simp only[execOp,ho,h1,h2];simp[eqGuard,binOp,go_sem];exact hl,.eP _ _ (.str _)⟩
   ·simp at hv
  all_goals
   simp only[Option.some.injEq]at hv;subst hv
   exact⟨_,by simp only[execOp,ho,h1,h2];simp[eqGuard,binOp,Op.stringOp,go_sem],.eP _ _ (.bool _)⟩
 ·simp at hv
theorem FI (n m:ByteArray):(n.toList==m.toList)=decide (n=m):=by
 rw[ByteArray.toList_eq,ByteArray.toList_eq]
 by_cases h:n=m
 ·subst h;simp
 ·have:n.data.toList≠m.data.toList:=fun he=>h (ByteArray.ext (Array.ext' he))
  rw[decide_eq_false h];exact beq_eq_false_iff_ne.2 this
theorem ph {t:TypeId} (h:fu P t=some .tB):P.underlying t=some .bool:=by unfold fu at h;split at h<;>simp_all
theorem pj {t:TypeId} (h:fu P t=some .tI):∃k,P.underlying t=some (.int k):=by unfold fu at h;split at h<;>simp_all
theorem pk {t:TypeId} (h:fu P t=some .tS):P.underlying t=some .string:=by unfold fu at h;split at h<;>simp_all
theorem rR {d:Nat} {t:TypeId} {s:TS} {x y:AV} {u u':Value} {b:Bool} (hx:cE P w D ι x u) (hy:cE P w D ι y u') (hv:gq s x y=some b) (ht:fu P t=some s):(Op.equalIn (d+1) t u u').run P w=.ok b w:=by
 unfold gq at hv
 split at hv
 ·rename_i k n k' m
  split at hv
  ·rename_i hk
   subst hk
   simp at hv;subst hv
   obtain⟨q,hq⟩:=pj ht
   rw[dr hx,dr hy,run_equalIn_int _ _ _ _ _ _ _ hq];rfl
  ·simp at hv
 ·simp at hv;subst hv
  rw[e9 hx,e9 hy,run_equalIn_bool' _ _ _ _ _ (ph ht)]
 ·simp at hv;subst hv
  rw[fC hx,fC hy,run_equalIn_string _ _ _ _ _ (pk ht),FI]
 ·simp at hv
def fo (P:Program) (w:World) (D:Nat->Prop) (ι:Names) (xs:List AV) (vs:Array Value):Prop:=vs.size=xs.length/\∀(j:Nat) (a:AV),xs[j]? =some a->∃u,vs[j]? =some u/\cE P w D ι a u
theorem fo.part {xs:List AV} {vs:Array Value} (h:fo P w D ι xs vs) (off n:Nat) (hn:off+n<=xs.length):fo P w D ι ((xs.drop off).take n) (vs.extract off (off+n)):=by
 refine⟨by simp[h.1];omega,fun j a ha=>?_⟩
 rw[List.getElem?_take]at ha
 split at ha
 ·rename_i hj
  rw[List.getElem?_drop]at ha
  obtain⟨u,h1,h2⟩:=h.2 _ _ ha
  refine⟨u,?_,h2⟩
  rw[Array.getElem?_extract]
  rw[if_pos (by rw[h.1];omega),h1]
 ·simp at ha
theorem rh:∀{ts:List TS} {xs ys:List AV} {b:Bool},fh ts xs ys=some b->xs.length=ts.length/\ys.length=ts.length
 |[],[],[],_,_=>⟨rfl,rfl⟩
 |t::ts,x::xs,y::ys,b,h=>by
  unfold fh at h
  split at h
  ·rename_i c d h1 h2
   have:=rh h2
   simp[this.1,this.2]
  ·simp at h
 |[],[],_::_,_,h=>by simp[fh]at h
 |[],_::_,_,_,h=>by simp[fh]at h
 |_::_,[],_,_,h=>by simp[fh]at h
 |_::_,_::_,[],_,h=>by simp[fh]at h
theorem E7:∀{ts us:List TS} {xs ys:List AV} {b:Bool},fh (ts++us) xs ys=some b->∃c d,fh ts (xs.take ts.length) (ys.take ts.length)=some c/\fh us (xs.drop ts.length) (ys.drop ts.length)=some d/\b=(c&&d)
 |[],us,xs,ys,b,h=>⟨true,b,by simp[fh],by simpa using h,by simp⟩
 |t::ts,us,x::xs,y::ys,b,h=>by
  simp only[List.cons_append]at h
  unfold fh at h
  split at h
  ·rename_i c d h1 h2
   obtain⟨c',d',h3,h4,rfl⟩:=E7 h2
   simp at h;subst h
   exact⟨c&&c',d',by simp[fh,h1,h3],by simpa using h4,by simp[Bool.and_assoc]⟩
  ·simp at h
 |t::ts,us,[],ys,b,h=>by simp[fh]at h
 |t::ts,us,x::xs,[],b,h=>by simp[fh]at h
theorem mm {t:TypeId} {vs:Array Value} {off:Nat} {u:Value} (ha:nO P t=some false) (hu:vs[off]? =some u):(Go.part t vs off).run P w=.ok u w:=by
 unfold nO at ha
 have hi:(isAgg t).run P w=.ok false w:=by
  split at ha<;>simp at ha
  rename_i d h1 h2 hd
  simp only[isAgg,Sem.run_bind,run_underlying hd,Result.andThen_ok]
  cases d<;>simp_all
 simp[Go.part,hi,hu]
theorem sW {t:TypeId} {b:Bool} (ha:nO P t=some b):(isAgg t).run P w=.ok b w:=by
 unfold nO at ha
 split at ha<;>simp at ha<;>subst ha<;>rename_i hd<;>simp only[isAgg,Sem.run_bind,run_underlying hd,Result.andThen_ok]<;>(try simp)
theorem run_sizeOf {t:TypeId} {n:Nat} (h:dS P t=some n):(sizeOf t).run P w=.ok n w:=by
 unfold dS at h
 simp only[Option.map_eq_some_iff]at h
 obtain⟨i,hi,rfl⟩:=h
 simp[sizeOf,typeInfo,hi]
theorem pg {t:TypeId} {vs:Array Value} {off n:Nat} (ha:nO P t=some true) (hn:dS P t=some n):(Go.part t vs off).run P w=.ok (.agg (vs.extract off (off+n))) w:=by
 simp[Go.part,sW ha,run_sizeOf hn]
theorem Iw (d off:Nat):eG P (d+1) off []=some []:=rfl
theorem ye (d off:Nat) (f:Field) (r:List Field):eG P (d+1) off (f::r)=(if f.offset=off/\f.name≠ "_" then
   match fu P f.type with
   |some t=>if nO P f.type=some false then(eG P (d+1) (off+1) r).map (t::·)else none
   |none=>match P.underlying f.type with
    |some (.struct fs)=>if !P.stoodInHeld f.type then match eG P d 0 fs.toList with
     |some ts=>if dS P f.type=some ts.length/\ts≠[]then(eG P (d+1) (off+ts.length) r).map (ts++·)else none
     |none=>none else none
    |_=>none
  else none):=rfl
theorem rQ:∀(d:Nat) (fs:List Field) (off:Nat) (ts:List TS),eG P d off fs=some ts->∀(N:Nat) (_:d<=N) (xs ys:List AV) (vs us:Array Value) (b:Bool),fo P w D ι xs vs->fo P w D ι ys us->
  fh ts ((xs.drop off).take ts.length) ((ys.drop off).take ts.length)=some b->(Op.eqFields (N+1) vs us fs).run P w=.ok b w:=by
 intro d
 induction d with
 |zero=>
  intro fs off ts hf N _ xs ys vs us b _ _ he
  cases fs with
  |nil=>simp[eG]at hf;subst hf;simp[fh]at he;subst he;simp[Op.eqFields]
  |cons f r=>simp[eG]at hf
 |succ d ihd=>
  intro fs
  induction fs with
  |nil=>
   intro off ts hf N _ xs ys vs us b _ _ he
   rw[Iw]at hf;simp at hf;subst hf;simp[fh]at he;subst he;simp[Op.eqFields]
  |cons f r ih=>
   intro off ts hf N hN xs ys vs us b hx hy he
   rw[ye]at hf
   split at hf
   ·rename_i hcond
    obtain⟨ho,gU⟩:=hcond
    split at hf
    ·rename_i s hs
     split at hf
     ·rename_i uz
      simp only[Option.map_eq_some_iff]at hf
      obtain⟨Nf,hr,rfl⟩:=hf
      obtain⟨l1,l2⟩:=rh he
      simp only[List.length_cons,List.length_take,List.length_drop]at l1 l2
      have AO:off<xs.length:=by omega
      have hyo:off<ys.length:=by omega
      rw[List.drop_eq_getElem_cons AO,List.drop_eq_getElem_cons hyo,List.length_cons,List.take_succ_cons,List.take_succ_cons]at he
      unfold fh at he
      split at he
      ·rename_i c d' h1 h2
       simp at he;subst he
       obtain⟨u,hu,ru⟩:=hx.2 off _ (List.getElem?_eq_getElem AO)
       obtain⟨u',Fo,ru'⟩:=hy.2 off _ (List.getElem?_eq_getElem hyo)
       have:=ih (off+1) Nf hr N hN xs ys vs us d' hx hy h2
       simp only[Op.eqFields,if_pos gU,Sem.run_bind,ho,mm uz hu,mm uz Fo,Result.andThen_ok,rR ru ru' h1 hs,Sem.run_ite]
       cases c<;>simp[this]
      ·simp at he
     ·simp at hf
    ·split at hf
     ·rename_i fs' rl
      split at hf
      ·rename_i dB
       split at hf
       ·rename_i ts1 hts1
        split at hf
        ·rename_i ft
         simp only[Option.map_eq_some_iff]at hf
         obtain⟨Nf,hr,rfl⟩:=hf
         obtain⟨c,d',h1,h2,rfl⟩:=E7 he
         obtain⟨l1,l2⟩:=rh he
         simp only[List.length_append,List.length_take,List.length_drop]at l1 l2
         have uz:nO P f.type=some true:=by simp[nO,rl]
         have lp:0<ts1.length:=List.length_pos_iff.2 ft.2
         have I7:off+ts1.length<=xs.length:=by omega
         have Rg:off+ts1.length<=ys.length:=by omega
         rw[List.drop_take,List.drop_drop,List.drop_take,List.drop_drop]at h2
         rw[List.take_take,List.take_take]at h1
         simp only[List.length_append]at h1 h2
         rw[Nat.min_eq_left (by omega)]at h1
         have e2:ts1.length+Nf.length-ts1.length=Nf.length:=by omega
         rw[e2]at h2
         have:=ih (off+ts1.length) Nf hr N hN xs ys vs us d' hx hy h2
         have fP:=ihd fs'.toList 0 ts1 hts1 (N-1) (by omega) _ _ _ _ c (hx.part off ts1.length I7) (hy.part off ts1.length Rg) (by simpa[List.take_take]using h1)
         have hN':N-1+1=N:=by omega
         rw[hN']at fP
         have MM:P.fieldsOf f.type=fs':=by simp[Program.fieldsOf,rl]
         simp only[Op.eqFields,if_pos gU,Sem.run_bind,ho,pg uz ft.1,Result.andThen_ok,Sem.run_ite]
         rw[run_equalIn_struct w N f.type _ _ (by rw[MM];exact rl) (by simpa using dB),MM,fP]
         cases c<;>simp[this]
        ·simp at hf
       ·simp at hf
      ·simp at hf
     ·simp at hf
   ·simp at hf
theorem RS {x y:Operand} {x' y':O} {t yt:TypeId} {neg:Bool} {s:TS} {b:Bool} (E:bQ P w D ι env a) (ho:o.op=.binOp (if neg then .neq else .eql) t x y yt) (hs:fu P t=some s) (hx:cO P x=some x') (hy:cO P y=some y')
  (hv:gq s (cK env x') (cK env y')=some b):oh P a o w D ι (.bool (dz neg b)):=by
 have rx:=dm E hx
 have ry:=dm E hy
 refine⟨.bool (dz neg b),?_,.eP _ _ (.bool _)⟩
 have e0:(eqGuard (if neg then .neq else .eql) t x y (a.eval x) (a.eval y)).run P w=.ok () w:=by
  unfold gq at hv
  split at hv
  ·rename_i k n k' m h1 h2
   rw[h1]at rx;rw[h2]at ry
   rw[dr rx,dr ry];unfold eqGuard;cases neg<;>simp
  ·rename_i n m h1 h2
   rw[h1]at rx;rw[h2]at ry
   rw[e9 rx,e9 ry];unfold eqGuard;cases neg<;>simp
  ·rename_i n m h1 h2
   rw[h1]at rx;rw[h2]at ry
   rw[fC rx,fC ry];unfold eqGuard;cases neg<;>simp
  ·simp at hv
 have e1:(binOp (if neg then .neq else .eql) t (a.eval x) (a.eval y)).run P w=.ok (.bool (dz neg b)) w:=by
  have q:=rR (d:=9999) rx ry hv hs
  unfold gq at hv
  split at hv
  ·rename_i k n k' m h1 h2
   split at hv
   ·rename_i hk
    subst hk
    simp at hv;subst hv
    rw[h1]at rx;rw[h2]at ry
    rw[dr rx,dr ry]
    cases neg<;>simp only[binOp,ne_eq,not_true_eq_false,if_false,Op.intCmp,dz,if_true,Bool.false_eq_true]<;>simp[bne]<;>rfl
   ·simp at hv
  ·rename_i n m h1 h2
   rw[h1]at rx;rw[h2]at ry
   rw[e9 rx,e9 ry]at q ⊢
   cases neg<;>simp only[binOp,dz,if_true,Bool.false_eq_true,if_false,Sem.run_bind]<;>simp[Op.equal,Op.maxDepth,q]
  ·rename_i n m h1 h2
   simp at hv;subst hv
   rw[h1]at rx;rw[h2]at ry
   rw[fC rx,fC ry]
   cases neg<;>simp[binOp,Op.stringOp,dz,FI]
  ·simp at hv
 simp only[execOp,ho,Sem.run_bind,e0,e1,Result.andThen_ok,Sem.run_pure]
theorem RP {x y:Operand} {x' y':O} {t yt:TypeId} {neg:Bool} {ts:List TS} {fs:Array Field} {xs ys:List AV} {b:Bool} (E:bQ P w D ι env a) (ho:o.op=.binOp (if neg then .neq else .eql) t x y yt) (rl:P.underlying t=some (.struct fs)) (dB:P.stoodInHeld t=false) (Lf:P.eqGuardType P.depth t=false)
  (xE:eG P 4 0 fs.toList=some ts) (hx:cO P x=some x') (hy:cO P y=some y') (h1:cK env x'=.agg xs) (h2:cK env y'=.agg ys)
  (hv:fh ts xs ys=some b):oh P a o w D ι (.bool (dz neg b)):=by
 obtain⟨vs,f,rx,n1,_,f1,r1⟩:=iP (h1▸dm E hx)
 obtain⟨us,f',ry,n2,_,f2,r2⟩:=iP (h2▸dm E hy)
 refine⟨.bool (dz neg b),?_,.eP _ _ (.bool _)⟩
 obtain⟨l1,l2⟩:=rh hv
 have L:∀(xs:List AV) (vs:Array Value) (f:Nat->Value),vs.size=xs.length->(∀j,j<xs.length->vs[j]? =some (f j))->(∀j a,xs[j]? =some a->cE P w D ι a (f j))->fo P w D ι xs vs:=fun xs vs f h1 h2 h3=>
  ⟨h1,fun j a ha=>⟨f j,h2 j (List.getElem?_eq_some_iff.1 ha).1,h3 j a ha⟩⟩
 have q:=rQ (w:=w) 4 fs.toList 0 ts xE 9998 (by omega) xs ys vs us b (L _ _ _ n1 f1 r1) (L _ _ _ n2 f2 r2) (by simpa[List.take_of_length_le,l1,l2]using hv)
 have MM:P.fieldsOf t=fs:=by simp[Program.fieldsOf,rl]
 have q2:(Op.equal t (.agg vs) (.agg us)).run P w=.ok b w:=by
  unfold Op.equal
  rw[show Op.maxDepth=9999+1 from rfl,run_equalIn_struct w 9999 t _ _ (by rw[MM];exact rl) dB,MM,q]
 simp only[execOp,ho,Sem.run_bind,rx,ry,run_eqGuard_agg w _ _ _ _ _ _ Lf,Result.andThen_ok]
 cases neg<;>simp[binOp,q2,dz]
theorem Pf {x:Operand} {x':O} {t yt e:TypeId} {neg:Bool} {b:Bool} (E:bQ P w D ι env a) (ho:o.op=.binOp (if neg then .neq else .eql) t x (.const (.slice none 0 0)) yt) (ht:P.underlying t=some (.slice e)) (hx:cO P x=some x')
  (hv:dh (cK env x')=some b):oh P a o w D ι (.bool (dz neg b)):=by
 have hr:=dm E hx
 have rx:∃A n c,a.eval x=.slice A n c/\b=A.isNone:=by
  unfold dh at hv
  split at hv<;>simp at hv<;>subst hv<;>rename_i hh
  ·rw[hh]at hr;exact⟨_,_,_,j6 hr,rfl⟩
  ·rw[hh]at hr;obtain⟨o,cap,B,h,_⟩:=iQ hr
   exact⟨_,_,_,h,rfl⟩
  ·rw[hh]at hr
   obtain⟨A,c,h',_,_,h⟩:=wG hr
   rcases h with h|⟨b,o,sz,vs,rfl,_⟩
   ·simp at h
   ·exact⟨_,_,_,h',rfl⟩
 refine⟨.bool (dz neg b),?_,.eP _ _ (.bool _)⟩
 obtain⟨A,n,c,h,rfl⟩:=rx
 have hq:(Op.equal t (.slice A n c) (.slice none 0 0)).run P w=.ok A.isNone w:=by
  unfold Op.equal
  rw[show Op.maxDepth=9999+1 from rfl,Op.equalIn]
  simp only[Sem.run_bind,run_underlying ht,Result.andThen_ok]
  cases A<;>rfl
 have hc:a.eval (.const (.slice none 0 0))=.slice none 0 0:=rfl
 simp only[execOp,ho,h,hc]
 cases neg<;>simp only[Bool.false_eq_true,if_false,if_true,Bool.not_true,Bool.not_false,eqGuard,binOp,dz,Sem.run_bind,hq,Result.andThen_ok,Sem.run_pure]
theorem RQ {x:Operand} {x':O} {t yt e:TypeId} {neg:Bool} {b:Bool} (E:bQ P w D ι env a) (ho:o.op=.binOp (if neg then .neq else .eql) t x (.const (.pointer none)) yt) (ht:P.underlying t=some (.pointer e)) (hx:cO P x=some x')
  (hv:Kf (cK env x')=some b):oh P a o w D ι (.bool (dz neg b)):=by
 have hr:=dm E hx
 have rx:∃A,a.eval x=.pointer A/\b=A.isNone:=by
  unfold Kf at hv
  split at hv<;>simp at hv<;>subst hv<;>rename_i hh
  ·rw[hh]at hr;exact⟨_,JE hr,rfl⟩
  ·rw[hh]at hr;obtain⟨B,h,_⟩:=iy hr
   exact⟨_,h,rfl⟩
  ·rw[hh]at hr;obtain⟨_,_,_,h,_⟩:=kZ hr
   exact⟨_,h,rfl⟩
 refine⟨.bool (dz neg b),?_,.eP _ _ (.bool _)⟩
 obtain⟨A,h,rfl⟩:=rx
 have hq:(Op.equal t (.pointer A) (.pointer none)).run P w=.ok A.isNone w:=by
  unfold Op.equal
  rw[show Op.maxDepth=9999+1 from rfl,Op.equalIn]
  simp only[Sem.run_bind,run_underlying ht,Result.andThen_ok]
  cases A<;>rfl
 have hc:a.eval (.const (.pointer none))=.pointer none:=rfl
 simp only[execOp,ho,h,hc]
 cases neg<;>simp only[Bool.false_eq_true,if_false,if_true,Bool.not_true,Bool.not_false,eqGuard,binOp,dz,Sem.run_bind,hq,Result.andThen_ok,Sem.run_pure]
theorem Pe {x:Operand} {x':O} {t yt:TypeId} {p r:Array TypeId} {va:Bool} {neg:Bool} {b:Bool} (E:bQ P w D ι env a) (ho:o.op=.binOp (if neg then .neq else .eql) t x (.const .nilFunc) yt) (ht:P.underlying t=some (.func p r va)) (hx:cO P x=some x')
  (hv:de (cK env x')=some b):oh P a o w D ι (.bool (dz neg b)):=by
 have hr:=dm E hx
 have rx:a.eval x=.nilFunc/\b=true∨∃f c,a.eval x=.func f #[] c/\b=false:=by
  unfold de at hv
  split at hv<;>simp at hv<;>subst hv<;>rename_i hh
  ·rw[hh]at hr;exact .inl ⟨wE hr,rfl⟩
  ·rw[hh]at hr;obtain⟨vs,g,h,_⟩:=Ae hr
   exact .inr ⟨_,_,h,rfl⟩
 refine⟨.bool (dz neg b),?_,.eP _ _ (.bool _)⟩
 have hc:a.eval (.const .nilFunc)=.nilFunc:=rfl
 rcases rx with⟨h,rfl⟩|⟨f,c,h,rfl⟩
 ·have hq:(Op.equal t .nilFunc .nilFunc).run P w=.ok true w:=by
   unfold Op.equal
   rw[show Op.maxDepth=9999+1 from rfl,Op.equalIn]
   simp only[Sem.run_bind,run_underlying ht,Result.andThen_ok]
   rfl
  simp only[execOp,ho,h,hc]
  cases neg<;>simp only[Bool.false_eq_true,if_false,if_true,Bool.not_true,Bool.not_false,eqGuard,binOp,dz,Sem.run_bind,hq,Result.andThen_ok,Sem.run_pure]
 ·have hq:(Op.equal t (.func f #[] c) .nilFunc).run P w=.ok false w:=by
   unfold Op.equal
   rw[show Op.maxDepth=9999+1 from rfl,Op.equalIn]
   simp only[Sem.run_bind,run_underlying ht,Result.andThen_ok]
   rfl
  simp only[execOp,ho,h,hc]
  cases neg<;>simp only[Bool.false_eq_true,if_false,if_true,Bool.not_true,Bool.not_false,eqGuard,binOp,dz,Sem.run_bind,hq,Result.andThen_ok,Sem.run_pure]
theorem RV {x:Operand} {x':O} {t:TypeId} (E:bQ P w D ι env a) (ho:o.op=.unOp .not t x) (hx:cO P x=some x') (hv:ez (cK env x')=some v):oh P a o w D ι v:=by
 have hr:=dm E hx
 unfold ez at hv
 split at hv
 ·rename_i b hb
  simp at hv;subst hv
  rw[hb]at hr
  exact⟨_,by simp only[execOp,ho,e9 hr];rfl,.eP _ _ (.bool _)⟩
 ·simp at hv
theorem RU {x:Operand} {x':O} {t:TypeId} (E:bQ P w D ι env a) (ho:o.op=.unOp .neg t x) (hx:cO P x=some x') (hv:ev (cK env x')=some v):oh P a o w D ι v:=by
 have hr:=dm E hx
 unfold ev at hv
 split at hv
 ·rename_i k n hb
  simp at hv;subst hv
  rw[hb]at hr
  refine⟨_,by simp only[execOp,ho,dr hr];rfl,?_⟩
  rw[Int.zero_sub];exact .eP _ _ (.int _ _)
 ·simp at hv
theorem Pd {x:Operand} {x':O} {s d:TypeId} {k q:IntKind} (E:bQ P w D ι env a) (ho:o.op=.convert s d x) (hs:P.underlying s=some (.int q)) (hd:P.underlying d=some (.int k)) (hx:cO P x=some x') (hv:cW k (cK env x')=some v):oh P a o w D ι v:=by
 have hr:=dm E hx
 unfold cW at hv
 split at hv
 ·rename_i k' n hb
  simp at hv;subst hv
  rw[hb]at hr
  refine⟨.int k (k.wrap n),?_,.eP _ _ (.int _ _)⟩
  simp only[execOp,ho,dr hr,convert,Sem.run_bind,run_underlying hs,run_underlying hd,Result.andThen_ok,Conv.intToInt,Sem.run_pure]
 ·simp at hv
theorem Mq {x:Operand} {x':O} {s:TypeId} {i:Nat} {fs:Array Field} {f:Field} {m:Nat} (E:bQ P w D ι env a) (ho:o.op=.fieldAddr s x i) (hs:P.underlying s=some (.struct fs)) (hf:fs[i]? =some f) (hm:dS P f.type=some (m+1)) (hx:cO P x=some x')
  (hv:EJ f.offset (cK env x')=some v):oh P a o w D ι v:=by
 have hr:=dm E hx
 have go:∀b oo,a.eval x=.pointer (some ⟨b,oo,none⟩)->(execOp a.eval o).run P w=.ok (.value (.pointer (some ⟨b,oo+f.offset,none⟩))) w:=fun b oo h=>by
  simp only[execOp,ho,h,Instr.fieldAt,Sem.run_bind,run_underlying hs,Result.andThen_ok,hf,Instr.sureAddr,Sem.run_pure,fieldPlace,run_sizeOf hm,Nat.add_eq_zero_iff,Nat.one_ne_zero,and_false,if_false,Addr.add]
  split
  ·rename_i h0;simp[h0]
  ·rfl
 unfold EJ at hv
 split at hv
 ·rename_i jU i' oo hb
  simp at hv;subst hv
  rw[hb]at hr
  obtain⟨B,h,hB,hk⟩:=iy hr
  refine⟨_,go _ _ h,?_⟩
  rw[Nat.add_assoc]
  exact .ptr _ _ _ _ hB hk
 ·rename_i cs hb
  simp at hv;subst hv
  rw[hb]at hr
  obtain⟨b,oo,vs,h,h1,h2,h3,h4⟩:=kZ hr
  refine⟨_,go _ _ h,.eP _ _ (.cQ _ _ _ (fun j=>vs (f.offset+j)) h1 (fun a ha=>h2 a (List.mem_of_mem_drop ha)) (fun j hj=>?_) (fun j a ha=>h4 _ _ (by simpa using ha)))⟩
  rw[Nat.add_assoc]
  exact h3 _ (by simp at hj;omega)
 ·simp at hv
theorem Mr {x:Operand} {x':O} {s:TypeId} {i n:Nat} {ag:Bool} {fs:Array Field} {f:Field} (E:bQ P w D ι env a) (ho:o.op=.field s x i) (hs:P.underlying s=some (.struct fs)) (hf:fs[i]? =some f) (uz:nO P f.type=some ag) (hm:dS P f.type=some n) (hx:cO P x=some x')
  (hv:bS ag f.offset n (cK env x')=some v):oh P a o w D ι v:=by
 have hr:=dm E hx
 unfold bS at hv
 split at hv
 ·rename_i cs hb
  split at hv
  ·rename_i hl
   rw[hb]at hr
   obtain⟨vs,g,h,n1,fl,f1,r1⟩:=iP hr
   unfold part at hv
   cases ag with
   |true=>
    simp only[if_true]at hv
    split at hv
    ·simp at hv;subst hv
     refine⟨.agg (vs.extract f.offset (f.offset+n)),?_,.agg _ _ (fun j=>g (f.offset+j)) (by simp[n1];omega) (fun a ha=>fl a (List.mem_of_mem_drop (List.mem_of_mem_take ha))) (fun j hj=>?_) (fun j a ha=>?_)⟩
     ·simp only[execOp,ho,h,Instr.field,Sem.run_bind,run_underlying hs,Result.andThen_ok,hf,asAgg,Sem.run_pure,pg uz hm]
     ·simp at hj
      rw[Array.getElem?_extract,if_pos (by omega)];exact f1 _ (by omega)
     ·rw[List.getElem?_take]at ha
      split at ha
      ·exact r1 _ _ (by simpa using ha)
      ·simp at ha
    ·simp at hv
   |false=>
    simp only[Bool.false_eq_true,if_false]at hv
    have nQ:cs[f.offset]? =some v:=by simpa[List.head?_drop]using hv
    have dM:=(List.getElem?_eq_some_iff.1 nQ).1
    exact⟨g f.offset,by simp only[execOp,ho,h,Instr.field,Sem.run_bind,run_underlying hs,Result.andThen_ok,hf,asAgg,Sem.run_pure,mm uz (f1 _ dM)],r1 _ _ nQ⟩
  ·simp at hv
 ·simp at hv
theorem RW {left:Bool} {x y:Operand} {x' y':O} {t yt:TypeId} (E:bQ P w D ι env a) (ho:o.op=.binOp (if left then .shl else .shr) t x y yt) (hx:cO P x=some x') (hy:cO P y=some y') (hv:iC left (cK env x') (cK env y')=some v):oh P a o w D ι v:=by
 unfold iC at hv
 split at hv
 ·rename_i k n k' m hb sG
  split at hv
  ·simp at hv
  ·rename_i hm
   simp at hv;subst hv
   have h1:=dr (hb▸dm E hx)
   have h2:=dr (sG▸dm E hy)
   refine⟨_,?_,.eP _ _ (.int _ _)⟩
   simp only[execOp,ho,h1,h2]
   cases left<;>simp only[Bool.false_eq_true,if_false,if_true,eqGuard,Bool.not_true,Bool.not_false,binOp,Op.shift,hm,Sem.run_bind,Sem.run_pure,Result.andThen_ok]<;>rfl
 ·simp at hv
end
end Go.Proofs.YtgoelphibofcmaaGreat.V

namespace Go.Proofs.YtgoelphibofcmaaGreat.V
open Go.RowKit
variable {P:Program} {w w':World} {D D':Nat->Prop} {ι ι':Names}
theorem kb (b o j:Nat):(⟨b,o,none⟩:Addr).add j=⟨b,o+j,none⟩:=by unfold Addr.add;split<;>simp_all
section
variable {g:Rows} {hs:Nat} {env:Env} {a:Act} {o:Oper} {id:Id} {v:AV}
theorem kz {t:TypeId} {ag:Bool} {n b oo:Nat} {cs:List AV} {v:AV} {f:Nat->Value} (uz:nO P t=some ag) (hn:dS P t=some n) (hp:part ag n cs=some v) (fl:∀a∈cs,a.cell=true)
  (hc:∀j,j<cs.length->w.cell? ⟨b,oo+j,none⟩=some (f j)) (hr:∀j a,cs[j]? =some a->cE P w D ι a (f j)):∃u,(loadVar t ⟨b,oo,none⟩).run P w=.ok u w/\cE P w D ι v u:=by
 unfold part at hp
 cases ag with
 |true=>
  simp only[if_true]at hp
  split at hp
  ·rename_i hl
   simp at hp;subst hp
   refine⟨.agg ((List.range n).map f).toArray,?_,.agg _ _ f (by simp;omega) (fun a ha=>fl a (List.mem_of_mem_take ha)) (fun j hj=>?_) (fun j a ha=>?_)⟩
   ·simp only[loadVar,Sem.run_bind,sW uz,Result.andThen_ok,if_true,run_sizeOf hn,Sem.run_pure]
    rw[run_loadCells w _ n f (fun j hj=>by rw[kb];exact hc j (by omega))]
    rfl
   ·simp at hj
    have:j<n:=by omega
    simp[this]
   ·rw[List.getElem?_take]at ha
    split at ha
    ·exact hr _ _ ha
    ·simp at ha
  ·simp at hp
 |false=>
  simp only[Bool.false_eq_true,if_false]at hp
  cases cs with
  |nil=>simp at hp
  |cons c r=>
   simp at hp;subst hp
   refine⟨f 0,?_,hr 0 _ rfl⟩
   simp only[loadVar,Sem.run_bind,sW uz,Result.andThen_ok,Bool.false_eq_true,if_false]
   have:=hc 0 (by simp)
   simp at this
   rw[run_load,this]
theorem JO {S:gn P hs D ι g w} {i:Nat} {cs:List AV} (h:rowAt g id i=some cs) (hk:∀B,ι id=some B->B.k=none):∃B r,g id=some r/\ι id=some B/\ly P w D ι B r/\r.rows[i]? =some cs/\(∀a∈cs,a.cell=true)/\∃f:Nat->Value,∀j,j<cs.length->w.cell? ⟨B.b,i*B.sz+j,none⟩=some (f j)/\∀a,cs[j]? =some a->cE P w D ι a (f j):=by
 unfold rowAt at h
 simp only[Option.bind_eq_some_iff]at h
 obtain⟨r,hr,hi⟩:=h
 obtain⟨B,hB,R,_,_⟩:=S.row id r hr
 replace R:=R.row (hk B hB)
 refine⟨B,r,hr,hB,R,hi,R.flat cs (List.mem_of_getElem? hi),fun j=>(w.cell? ⟨B.b,i*B.sz+j,none⟩).getD undef,fun j hj=>?_⟩
 obtain⟨u,hu,xD⟩:=R.at_ i j cs _ hi (List.getElem?_eq_getElem hj)
 rw[R.sz,hu]
 refine⟨by simp only[hu,Option.getD_some],fun a ha=>?_⟩
 rw[List.getElem?_eq_getElem hj]at ha
 injection ha with ha
 subst ha
 simpa only[hu,Option.getD_some]using xD
theorem Po {x:Operand} {x':O} {t:TypeId} {ag:Bool} {n:Nat} (S:gn P hs D ι g w) (E:bQ P w D ι env a) (ho:o.op=.load t x) (uz:nO P t=some ag) (hn:dS P t=some n) (hx:cO P x=some x') (hv:ld g ag n (cK env x')=some v):oh P a o w D ι v:=by
 have hr:=dm E hx
 have go:∀b oo u,a.eval x=.pointer (some ⟨b,oo,none⟩)->(loadVar t ⟨b,oo,none⟩).run P w=.ok u w->(execOp a.eval o).run P w=.ok (.value u) w:=fun b oo u h h2=>by
  simp only[execOp,ho,h,Instr.loadAt,Instr.sureAddr,Sem.run_bind,Sem.run_pure,Result.andThen_ok,h2]
 unfold ld at hv
 split at hv
 ·rename_i jU i' oo hb
  rw[hb]at hr
  obtain⟨B,h,hB,hk⟩:=iy hr
  simp only[Option.bind_eq_some_iff]at hv
  obtain⟨cs,dw,hp⟩:=hv
  obtain⟨B',r,Hx,dC,R,hi,fl,f,hf⟩:=JO (S:=S) dw (fun B2 h2=>by rw[hB]at h2;injection h2 with h2;subst h2;exact hk)
  rw[hB]at dC;injection dC with dC;subst dC
  obtain⟨u,h1,h2⟩:=kz (w:=w) (b:=B.b) (oo:=i'*B.sz+oo) (f:=fun j=>f (oo+j)) uz hn hp (fun a ha=>fl a (List.mem_of_mem_drop ha)) (fun j hj=>by
   rw[Nat.add_assoc];exact(hf _ (by simp at hj;omega)).1) (fun j a ha=>by
   simp at ha;exact(hf _ ((List.getElem?_eq_some_iff.1 ha).1)).2 _ ha)
  exact⟨u,go _ _ _ h h1,h2⟩
 ·rename_i cs hb
  rw[hb]at hr
  obtain⟨b,oo,vs,h,h1,h2,h3,h4⟩:=kZ hr
  obtain⟨u,k1,k2⟩:=kz (w:=w) (b:=b) (oo:=oo) (f:=vs) uz hn hv h2 h3 (fun j a ha=>.eP _ _ (h4 j a ha))
  exact⟨u,go _ _ _ h k1,k2⟩
 ·simp at hv
theorem RN {x:Operand} {x':O} (E:bQ P w D ι env a) (ho:o.op=.nilCheck x) (hx:cO P x=some x') (hv:er (cK env x')=some v):oh P a o w D ι v:=by
 have hr:=dm E hx
 unfold er at hv
 split at hv
 ·rename_i jU i' oo hb
  simp at hv;subst hv
  rw[hb]at hr
  obtain⟨B,h,hB,hk⟩:=iy hr
  exact⟨_,by simp only[execOp,ho,h];rfl,.ptr _ _ _ _ hB hk⟩
 ·rename_i cs hb
  simp at hv;subst hv
  rw[hb]at hr
  obtain⟨b,oo,vs,h,_⟩:=kZ hr
  exact⟨_,by simp only[execOp,ho,h];rfl,h▸hr⟩
 ·simp at hv
theorem Ms {x i:Operand} {x' i':O} {t e:TypeId} {m:Nat} (S:gn P hs D ι g w) (E:bQ P w D ι env a) (ho:o.op=.indexAddr t x i) (ht:P.underlying t=some (.slice e)) (hm:dS P e=some (m+1)) (hx:cO P x=some x') (hi:cO P i=some i')
  (hv:bU g (m+1) (cK env x') (cK env i')=some v):oh P a o w D ι v:=by
 have hr:=dm E hx
 have DK:=dm E hi
 have go:∀b oo n c k (q:Int),a.eval x=.slice (some ⟨b,oo,none⟩) n c->a.eval i=.int k q->0<=q->q<n->(execOp a.eval o).run P w=.ok (.value (.pointer (some ⟨b,oo+q.toNat*(m+1),none⟩))) w:=fun b oo n c k q h h2 h3 h4=>by
  simp only[execOp,ho,h,h2,Instr.indexAt,asIntOf,Sem.run_bind,Sem.run_pure,run_underlying ht,Result.andThen_ok,h3,h4,and_self,if_true,run_sizeOf hm,kb]
 unfold bU at hv
 split at hv
 ·rename_i rows k q hb sG
  split at hv
  ·rename_i hq
   simp only[Option.bind_eq_some_iff]at hv
   obtain⟨cs,dw,hv⟩:=hv
   split at hv
   ·rename_i hlen
    simp at hv;subst hv
    rw[hb]at hr;rw[sG]at DK
    have dM:=(List.getElem?_eq_some_iff.1 dw).1
    obtain⟨A,c,h,h1,h2,h3⟩:=wG hr
    rcases h3 with h3|⟨b,oo,sz,vs,rfl,hD,hl,fl,hc,hi⟩
    ·subst h3;simp at dw
    have ft:sz=m+1:=by rw[<-hlen,hl cs (List.mem_of_getElem? dw)]
    refine⟨_,go b oo _ _ k q h (dr DK) hq (by omega),.eP _ _ (.cQ cs b _ (vs q.toNat) hD (fl cs (List.mem_of_getElem? dw)) (fun j hj=>?_) (fun j a ha=>hi _ _ _ _ dw ha))⟩
    have:=hc q.toNat j dM (by rw[<-hl cs (List.mem_of_getElem? dw)];exact hj)
    rw[ft]at this
    rw[Nat.add_assoc];exact this
   ·simp at hv
  ·simp at hv
 ·rename_i jU off len k q hb sG
  split at hv
  ·rename_i hq
   simp only[Option.bind_eq_some_iff]at hv
   obtain⟨r,Hx,hv⟩:=hv
   split at hv
   ·rename_i yp
    simp at hv;subst hv
    rw[hb]at hr;rw[sG]at DK
    obtain⟨oo,cap,B,h,hB,h1,h2,h3,h4,hk⟩:=iQ hr
    obtain⟨B',dC,R,_,_⟩:=S.row _ _ Hx
    rw[hB]at dC;injection dC with dC;subst dC
    replace R:=R.row hk
    have ft:B.sz=m+1:=R.sz.trans yp
    refine⟨_,go _ _ _ _ k q h (dr DK) hq.1 hq.2,?_⟩
    have CN:oo=off*B.sz:=by rcases h2 with h2|h2<;>omega
    have:oo+q.toNat*(m+1)=(off+q.toNat)*B.sz+0:=by rw[CN,<-ft,Nat.add_mul];rfl
    rw[this]
    exact .ptr _ _ _ _ hB hk
   ·simp at hv
  ·simp at hv
 ·simp at hv
theorem Pg {x i:Operand} {x' i':O} {t e:TypeId} {m len:Nat} (E:bQ P w D ι env a) (ho:o.op=.indexAddr t x i) (ht:P.underlying t=some (.array len e)) (hm:dS P e=some (m+1)) (hx:cO P x=some x') (hi:cO P i=some i')
  (hv:cX len (m+1) (cK env x') (cK env i')=some v):oh P a o w D ι v:=by
 have hr:=dm E hx
 have DK:=dm E hi
 have go:∀b oo k (q:Int),a.eval x=.pointer (some ⟨b,oo,none⟩)->a.eval i=.int k q->0<=q->q<len->(execOp a.eval o).run P w=.ok (.value (.pointer (some ⟨b,oo+q.toNat*(m+1),none⟩))) w:=fun b oo k q h h2 h3 h4=>by
  simp only[execOp,ho,h,h2,Instr.indexAt,asIntOf,Sem.run_bind,Sem.run_pure,run_underlying ht,Instr.sureAddr,Result.andThen_ok,h3,h4,and_self,if_true,run_sizeOf hm,kb]
 unfold cX at hv
 split at hv
 ·rename_i jU r oo k q hb sG
  split at hv
  ·rename_i hq
   simp at hv;subst hv
   rw[hb]at hr;rw[sG]at DK
   obtain⟨B,h,hB,hk⟩:=iy hr
   refine⟨_,go _ _ k q h (dr DK) hq.1 hq.2,?_⟩
   rw[Nat.add_assoc]
   exact .ptr _ _ _ _ hB hk
  ·simp at hv
 ·rename_i cs k q hb sG
  split at hv
  ·rename_i hq
   simp at hv;subst hv
   rw[hb]at hr;rw[sG]at DK
   obtain⟨b,oo,vs,h,h1,h2,h3,h4⟩:=kZ hr
   refine⟨_,go _ _ k q h (dr DK) hq.1 hq.2,.eP _ _ (.cQ _ _ _ (fun j=>vs (q.toNat*(m+1)+j)) h1 (fun a ha=>h2 a (List.mem_of_mem_drop ha)) (fun j hj=>?_) (fun j a ha=>h4 _ _ (by simpa using ha)))⟩
   rw[Nat.add_assoc]
   exact h3 _ (by simp at hj;omega)
  ·simp at hv
 ·simp at hv
theorem Pj {x i:Operand} {x' i':O} {t:TypeId} (E:bQ P w D ι env a) (ho:o.op=.index t x i) (ht:P.underlying t=some .string) (hx:cO P x=some x') (hi:cO P i=some i')
  (hv:cZ (cK env x') (cK env i')=some v):oh P a o w D ι v:=by
 have hr:=dm E hx
 have DK:=dm E hi
 unfold cZ at hv
 split at hv
 ·rename_i s k q hb sG
  split at hv
  ·rename_i hq
   simp only[Option.map_eq_some_iff]at hv
   obtain⟨c,hc,rfl⟩:=hv
   rw[hb]at hr;rw[sG]at DK
   refine⟨_,?_,.eP _ _ (.int _ _)⟩
   simp only[execOp,ho,fC hr,dr DK,Instr.index,asIntOf,Sem.run_bind,Sem.run_pure,run_underlying ht,Result.andThen_ok,hq,if_true,hc]
  ·simp at hv
 ·simp at hv
theorem Ph {x i:Operand} {x' i':O} {t e:TypeId} {ag:Bool} {len n:Nat} (E:bQ P w D ι env a) (ho:o.op=.index t x i) (ht:P.underlying t=some (.array len e)) (uz:nO P e=some ag) (hn:dS P e=some n) (hx:cO P x=some x') (hi:cO P i=some i')
  (hv:cY ag len n (cK env x') (cK env i')=some v):oh P a o w D ι v:=by
 have hr:=dm E hx
 have DK:=dm E hi
 unfold cY at hv
 split at hv
 ·rename_i cs k q hb sG
  split at hv
  ·rename_i hq
   rw[hb]at hr;rw[sG]at DK
   obtain⟨vs,f,h,n1,fl,f1,r1⟩:=iP hr
   have go:∀u,(Go.part e vs (q.toNat*n)).run P w=.ok u w->(execOp a.eval o).run P w=.ok (.value u) w:=fun u hu=>by
    simp only[execOp,ho,h,dr DK,Instr.index,asIntOf,Sem.run_bind,Sem.run_pure,run_underlying ht,Result.andThen_ok,hq,and_self,if_true,run_sizeOf hn,hu]
   unfold part at hv
   cases ag with
   |true=>
    simp only[if_true]at hv
    split at hv
    ·rename_i hl
     simp at hv;subst hv
     simp only[List.length_drop]at hl
     by_cases HA:n=0
     ·subst HA
      refine⟨_,go _ (pg uz hn),.agg _ _ (fun _=>undef) (by simp) (fun a ha=>by simp at ha) (fun j hj=>by simp at hj) (fun j a ha=>by simp at ha)⟩
     refine⟨_,go _ (pg uz hn),.agg _ _ (fun j=>f (q.toNat*n+j)) (by simp[n1];omega) (fun a ha=>fl a (List.mem_of_mem_drop (List.mem_of_mem_take ha))) (fun j hj=>?_) (fun j a ha=>?_)⟩
     ·simp at hj
      rw[Array.getElem?_extract,if_pos (by omega)];exact f1 _ (by omega)
     ·rw[List.getElem?_take]at ha
      split at ha
      ·exact r1 _ _ (by simpa using ha)
      ·simp at ha
    ·simp at hv
   |false=>
    simp only[Bool.false_eq_true,if_false]at hv
    have nQ:cs[q.toNat*n]? =some v:=by simpa[List.head?_drop]using hv
    have dM:=(List.getElem?_eq_some_iff.1 nQ).1
    exact⟨_,go _ (mm uz (f1 _ dM)),r1 _ _ nQ⟩
  ·simp at hv
 ·simp at hv
theorem Hu {x:Operand} {x':O} {i:Nat} (E:bQ P w D ι env a) (ho:o.op=.extract x i) (hx:cO P x=some x') (hv:aQ i (cK env x')=some v):oh P a o w D ι v:=by
 have hr:=dm E hx
 unfold aQ at hv
 split at hv
 ·rename_i vs hb
  rw[hb]at hr
  obtain⟨us,f,h,h1,h2,h3⟩:=uF hr
  have dM:=(List.getElem?_eq_some_iff.1 hv).1
  exact⟨_,by simp only[execOp,ho,h,Instr.extract,h2 _ dM];rfl,h3 _ _ hv⟩
 ·simp at hv
theorem RT {x:Operand} {x':O} {t:TypeId} {e:TypeId} {n:Nat} (E:bQ P w D ι env a) (ho:o.op=.call {callee:=.builtin .len,args:= #[x],argTypes:= #[t]}) (ht:P.underlying t=some (.slice e)) (hx:cO P x=some x') (hv:eu (cK env x')=some n):oh P a o w D ι (.int .i64 n):=by
 have hr:=dm E hx
 have go:∀A c,a.eval x=.slice A n c->(execOp a.eval o).run P w=.ok (.value (.int .i64 n)) w:=fun A c h=>by
  simp only[execOp,ho,resolve,Sem.run_bind,Sem.run_pure,Result.andThen_ok,invoke,builtin,Array.map,h]
  simp[Builtin.len_,run_underlying ht,goInt,h]
 refine⟨.int .i64 n,?_,.eP _ _ (.int _ _)⟩
 unfold eu at hv
 split at hv<;>simp at hv<;>subst hv<;>rename_i hb<;>rw[hb]at hr
 ·exact go _ _ (j6 hr)
 ·obtain⟨A,c,h,_⟩:=wG hr;exact go _ _ h
 ·obtain⟨oo,cap,B,h,_⟩:=iQ hr;exact go _ _ h
theorem Pm {x:Operand} {x':O} {t:TypeId} (E:bQ P w D ι env a) (ho:o.op=.call {callee:=.builtin .len,args:= #[x],argTypes:= #[t]}) (ht:P.underlying t=some .string) (hx:cO P x=some x') (hv:db (cK env x')=some v):oh P a o w D ι v:=by
 have hr:=dm E hx
 unfold db at hv
 split at hv
 ·rename_i s hb
  simp at hv;subst hv
  rw[hb]at hr
  have h:=fC hr
  refine⟨_,?_,.eP _ _ (.int _ _)⟩
  simp only[execOp,ho,resolve,Sem.run_bind,Sem.run_pure,Result.andThen_ok,invoke,builtin,Array.map,h]
  simp[Builtin.len_,run_underlying ht,goInt,h]
 ·simp at hv
theorem np {isS:Bool} {len cap h l:Nat} {lo hi:Option Operand} {M5 qN:Option O} (E:bQ P w D ι env a) (jM:qZ P lo=some M5) (CR:qZ P hi=some qN) (hh:ec len (qN.map (cK env))=some h) (hl:ee h (M5.map (cK env))=some l) (hc:len<=cap):
  (Instr.sliceBounds isS len cap (lo.map a.eval) (hi.map a.eval) none).run P w=.ok (l,h,cap) w/\l<=h/\h<=len:=by
 have bound:∀(x:Operand) (y:O) (k:IntKind) (n:Int) (m:Nat) (c:BoundsCode),cO P x=some y->cK env y=.int k n->0<=n->n<=m->(Instr.sliceBound (a.eval x) m c).run P w=.ok n.toNat w:=fun x y k n m c hx hy h0 h1=>by
  have hr:=dm E hx
  rw[hy]at hr
  simp only[Instr.sliceBound,dr hr,asIntOf,Sem.run_bind,Sem.run_pure,Result.andThen_ok,h0,h1,and_self,if_true]
 have H:h<=len/\((hi=none/\h=len)∨∃x,hi=some x/\∀c,(Instr.sliceBound (a.eval x) cap c).run P w=.ok h w):=by
  cases hi with
  |none=>
   simp[qZ]at CR;subst CR
   simp[ec]at hh;subst hh
   exact⟨Nat.le_refl _,.inl ⟨rfl,rfl⟩⟩
  |some x=>
   simp only[qZ,Option.map_eq_some_iff]at CR
   obtain⟨y,hy,rfl⟩:=CR
   simp only[Option.map_some,ec]at hh
   split at hh
   ·rename_i e;cases e
   ·rename_i k n e
    injection e with e
    split at hh
    ·rename_i hn
     simp at hh;subst hh
     exact⟨by omega,.inr ⟨x,rfl,fun c=>bound x y k n _ _ hy e hn.1 (by omega)⟩⟩
    ·simp at hh
   ·simp at hh
 have L:l<=h/\((lo=none/\l=0)∨∃x,lo=some x/\∀c,(Instr.sliceBound (a.eval x) h c).run P w=.ok l w):=by
  cases lo with
  |none=>
   simp[qZ]at jM;subst jM
   simp[ee]at hl;subst hl
   exact⟨Nat.zero_le _,.inl ⟨rfl,rfl⟩⟩
  |some x=>
   simp only[qZ,Option.map_eq_some_iff]at jM
   obtain⟨y,hy,rfl⟩:=jM
   simp only[Option.map_some,ee]at hl
   split at hl
   ·rename_i e;cases e
   ·rename_i k n e
    injection e with e
    split at hl
    ·rename_i hn
     simp at hl;subst hl
     exact⟨by omega,.inr ⟨x,rfl,fun c=>bound x y k n h _ hy e hn.1 hn.2⟩⟩
    ·simp at hl
   ·simp at hl
 refine⟨?_,L.1,H.1⟩
 unfold Instr.sliceBounds
 rcases H.2 with⟨rfl,rfl⟩|⟨x,rfl,hx⟩<;>rcases L.2 with⟨rfl,rfl⟩|⟨y,rfl,hy⟩<;>
  simp only[Option.map_none,Option.map_some,Sem.run_bind,Sem.run_pure,Result.andThen_ok, *]
theorem Mt {x:Operand} {x':O} {lo hi:Option Operand} {M5 qN:Option O} {t e:TypeId} {m:Nat} (S:gn P hs D ι g w) (E:bQ P w D ι env a) (ho:o.op=.slice t x lo hi none) (ht:P.underlying t=some (.slice e)) (hm:dS P e=some m) (hx:cO P x=some x') (jM:qZ P lo=some M5) (CR:qZ P hi=some qN)
  (hv:bV g m (cK env x') (M5.map (cK env)) (qN.map (cK env))=some v):oh P a o w D ι v:=by
 have hr:=dm E hx
 have go:∀A len cap l h,a.eval x=.slice A len cap->(Instr.sliceBounds true len cap (lo.map a.eval) (hi.map a.eval) none).run P w=.ok (l,h,cap) w->(execOp a.eval o).run P w=.ok (.value (.slice (if cap=l then A else A.map (·.add (l*m))) (h-l) (cap-l))) w:=fun A len cap l h h1 h2=>by
  simp only[execOp,ho,h1,Instr.sliceAt,Instr.slice,Sem.run_bind,Sem.run_pure,run_underlying ht,Result.andThen_ok,Option.map_none,h2,run_sizeOf hm]
 unfold bV at hv
 split at hv
 ·rename_i hb
  rw[hb]at hr
  simp only[Option.bind_eq_some_iff,Option.map_eq_some_iff]at hv
  obtain⟨h,hh,l,hl,rfl⟩:=hv
  obtain⟨q,q1,q2⟩:=np (w:=w) (isS:=true) (cap:=0) E jM CR hh hl (Nat.le_refl _)
  have h0:h=0:=by omega
  have l0:l=0:=by omega
  subst h0;subst l0
  refine⟨_,go _ _ _ _ _ (j6 hr) q,?_⟩
  simp;exact .eP _ _ .cC
 ·rename_i rows hb
  rw[hb]at hr
  simp only[Option.bind_eq_some_iff,Option.map_eq_some_iff]at hv
  obtain⟨h,hh,l,hl,hv⟩:=hv
  split at hv
  ·rename_i dJ
   simp at hv;subst hv
   obtain⟨A,c,he,c1,c2,h3⟩:=wG hr
   obtain⟨q,q1,q2⟩:=np (w:=w) (isS:=true) (cap:=c) E jM CR hh hl c1
   refine⟨_,go _ _ _ _ _ he q,.eP _ _ ?_⟩
   have hlen:((rows.drop l).take (h-l)).length=h-l:=by simp;omega
   by_cases hz:h-l=0
   ·have:(rows.drop l).take (h-l)=[]:=by rw[hz];simp
    rw[this,hz]
    exact .AP _ _ (by omega)
   ·rcases h3 with h3|⟨b,oo,sz,vs,rfl,hD,KC,fl,hc,hi⟩
    ·subst h3;simp at q2;omega
    rw[if_neg (by omega)]
    simp only[Option.map_some,kb]
    have BC:sz=m:=by
     have dM:l<rows.length:=by omega
     have:=dJ rows[l] (List.getElem_mem dM)
     rw[<-this,KC _ (List.getElem_mem dM)]
    subst BC
    refine .sl _ b _ _ _ sz (fun i j=>vs (l+i) j) hlen (by omega) (by omega) hD (fun cs dw=>KC cs (List.mem_of_mem_drop (List.mem_of_mem_take dw))) (fun cs dw=>fl cs (List.mem_of_mem_drop (List.mem_of_mem_take dw))) (fun i j hi hj=>?_) (fun i j cs a dw ha=>?_)
    ·rw[<-hc (l+i) j (by omega) hj,Nat.add_mul]
     congr 2;omega
    ·rw[List.getElem?_take]at dw
     split at dw
     ·exact hi _ _ _ _ (by simpa using dw) ha
     ·simp at dw
  ·simp at hv
 ·rename_i jU off len hb
  rw[hb]at hr
  simp only[Option.bind_eq_some_iff,Option.map_eq_some_iff]at hv
  obtain⟨r,Hx,h,hh,l,hl,hv⟩:=hv
  split at hv
  ·rename_i yp
   simp at hv;subst hv
   obtain⟨oo,cap,B,he,hB,h1,h2,h3,h4,hk⟩:=iQ hr
   obtain⟨B',dC,R,_,_⟩:=S.row _ _ Hx
   rw[hB]at dC;injection dC with dC;subst dC
   replace R:=R.row hk
   have ft:B.sz=m:=R.sz.trans yp
   obtain⟨q,q1,q2⟩:=np (w:=w) (isS:=true) (cap:=cap) E jM CR hh hl h1
   refine⟨_,go _ _ _ _ _ he q,?_⟩
   have e1:(off+l+(cap-l))*B.sz<=B.C:=by rw[show off+l+(cap-l)=off+cap by omega];exact h3
   by_cases mT:cap=l
   ·rw[if_pos mT]
    exact .own _ _ _ _ _ B hB hk (by omega) (.inl (by omega)) e1 (by omega)
   ·rw[if_neg mT]
    simp only[Option.map_some,kb]
    have CN:oo=off*B.sz:=by rcases h2 with h2|h2<;>omega
    exact .own _ _ _ _ _ B hB hk (by omega) (.inr (by rw[CN,ft,Nat.add_mul])) e1 (by omega)
  ·simp at hv
 ·simp at hv
theorem Ko {x:Operand} {x':O} {lo hi:Option Operand} {M5 qN:Option O} {t:TypeId} (E:bQ P w D ι env a) (ho:o.op=.slice t x lo hi none) (ht:P.underlying t=some .string) (hx:cO P x=some x') (jM:qZ P lo=some M5) (CR:qZ P hi=some qN)
  (hv:bh (cK env x') (M5.map (cK env)) (qN.map (cK env))=some v):oh P a o w D ι v:=by
 have hr:=dm E hx
 unfold bh at hv
 split at hv
 ·rename_i s hb
  rw[hb]at hr
  simp only[Option.bind_eq_some_iff,Option.map_eq_some_iff]at hv
  obtain⟨h,hh,l,hl,rfl⟩:=hv
  obtain⟨q,_,_⟩:=np (w:=w) (isS:=false) E jM CR hh hl (Nat.le_refl _)
  refine⟨_,?_,.eP _ _ (.str _)⟩
  simp only[execOp,ho,fC hr,Instr.sliceAt,Instr.slice,Sem.run_bind,Sem.run_pure,run_underlying ht,Result.andThen_ok,Option.map_none,Option.isSome_none,Bool.false_eq_true,if_false,q]
 ·simp at hv
theorem Eg {xs:List Operand} {ys:List O} (E:bQ P w D ι env a) (h:xs.mapM (cO P)=some ys):(xs.map a.eval).length=ys.length/\∀j y,ys[j]? =some y->cE P w D ι (cK env y) ((xs.map a.eval).getD j undef):=by
 induction xs generalizing ys with
 |nil=>simp at h;subst h;simp
 |cons x r ih=>
  simp only[List.mapM_cons,Option.bind_eq_bind,Option.bind_eq_some_iff]at h
  obtain⟨c,hc,pT,dw,h⟩:=h
  simp at h;subst h
  obtain⟨h1,h2⟩:=ih dw
  refine⟨by simpa using h1,fun j d hd=>?_⟩
  cases j with
  |zero=>simp at hd ⊢;subst hd;exact dm E hc
  |succ j=>simp at hd ⊢;simpa using h2 j d hd
theorem Pq {f:Nat} {first cH:Array Operand} {A8:List O} (E:bQ P w D ι env a) (ho:o.op=.makeFunc (.func f) first cH) (hf:first= #[]) (hc:fJ P f=true) (hx:cH.toList.mapM (cO P)=some A8):oh P a o w D ι (.fn f (A8.map (cK env))):=by
 subst hf
 obtain⟨h1,h2⟩:=Eg E hx
 refine⟨.func (.func f) #[] (cH.map a.eval),by simp only[execOp,ho,Instr.makeFunc,Sem.run_bind,Sem.run_pure,Result.andThen_ok];simp,.fn _ _ _ (fun j=>(cH.toList.map a.eval).getD j undef) hc (by simpa using h1) (fun j hj=>?_) (fun j x PY=>?_)⟩
 ·simp at hj h1
  have:j<cH.size:=by omega
  simp[this]
 ·simp only[List.getElem?_map,Option.map_eq_some_iff]at PY
  obtain⟨y,hy,rfl⟩:=PY
  exact h2 j y hy
theorem Pr {f:Nat} {first cH:Array Operand} {A8:List O} (E:bQ P w D ι env a) (ho:o.op=.makeFunc (.func f) first cH) (hf:cH= #[]) (hc:fJ P f=true) (hx:first.toList.mapM (cO P)=some A8):oh P a o w D ι (.sQ f (A8.map (cK env))):=by
 subst hf
 obtain⟨h1,h2⟩:=Eg E hx
 refine⟨.func (.func f) (first.map a.eval) #[],by simp only[execOp,ho,Instr.makeFunc,Sem.run_bind,Sem.run_pure,Result.andThen_ok];simp,.sQ _ _ _ (fun j=>(first.toList.map a.eval).getD j undef) hc (by simpa using h1) (fun j hj=>?_) (fun j x PY=>?_)⟩
 ·simp at hj h1
  have:j<first.size:=by omega
  simp[this]
 ·simp only[List.getElem?_map,Option.map_eq_some_iff]at PY
  obtain⟨y,hy,rfl⟩:=PY
  exact h2 j y hy
end
end Go.Proofs.YtgoelphibofcmaaGreat.V

namespace Go.Proofs.YtgoelphibofcmaaGreat.V
open Go.RowKit
variable {P:Program} {w w':World} {D D':Nat->Prop} {ι ι':Names}
def Mk (P:Program) (a:Act) (o:Oper) (w:World) (D:Nat->Prop) (ι:Names) (id:Id) (v:AV) (r:Row):Prop:=
 ∃u cells T,(execOp a.eval o).run P w=.ok (.value u) (w.alloc (.cells cells T))/\r.w=true/\r.rows.length*r.sz<=cells.size/\(∀cs∈r.rows,cs.length=r.sz)/\(∀cs∈r.rows,∀a∈cs,a.cell=true)/\
  (∀i j cs a,r.rows[i]? =some cs->cs[j]? =some a->∃x,cells[i*r.sz+j]? =some x/\cE P w D ι a x)/\∀ι':Names,ι' id=some ⟨w.heap.size,r.sz,cells.size,none⟩->cE P w D ι' v u
section
variable {g:Rows} {hs:Nat} {env:Env} {a:Act} {o:Oper} {id:Id} {v:AV}
theorem kL {vs:List Value} {cs:List K} (h:vs.mapM Gx=some cs):fo P w D ι (cs.map K.av) vs.toArray:=by
 obtain⟨h1,h2⟩:=rG h
 refine⟨by simp[h1],fun j a ha=>?_⟩
 simp only[List.getElem?_map,Option.map_eq_some_iff]at ha
 obtain⟨c,hc,rfl⟩:=ha
 exact⟨c.val,by simpa using h2 j c hc,wD c⟩
theorem jT {t:TypeId} {z:List K} (h:jH P t=some z):∃i v,P.info? t=some i/\i.zero=some v/\v.cells.size=i.size/\v.cells.toList.mapM Gx=some z/\z.length=i.size:=by
 unfold jH at h
 split at h
 ·rename_i i hi
  split at h
  ·rename_i v hv
   split at h
   ·rename_i hs
    exact⟨i,v,hi,hv,hs,h,by rw[(rG h).1];simpa using hs⟩
   ·simp at h
  ·simp at h
 ·simp at h
theorem FB {cs:List AV} {cells:Array Value} (h:fo P w D ι cs cells):∀i j c a,[cs][i]? =some c->c[j]? =some a->∃x,cells[i*cs.length+j]? =some x/\cE P w D ι a x:=by
 intro i j c a hi hj
 cases i with
 |zero=>simp at hi;subst hi;simpa using h.2 j a hj
 |succ i=>simp at hi
theorem Rp {t:TypeId} {z:List K} (ho:o.op=.alloc t) (hz:jH P t=some z):Mk P a o w D ι id (.ptr id 0 0) ⟨true,z.length,[z.map K.av]⟩:=by
 obtain⟨i,v,hi,hv,hs,hm,hl⟩:=jT hz
 have hk:=kL (P:=P) (w:=w) (D:=D) (ι:=ι) hm
 refine⟨.pointer (some ⟨w.heap.size,0,none⟩),v.cells,t,?_,rfl,?_,?_,?_,?_,?_⟩
 ·simp only[execOp,ho,Instr.alloc,zeroValue,typeInfo,Sem.run_bind]
  simp[hi,hv,newVar,newRow]
 ·simp[hl,hs]
 ·intro cs dw;simp at dw;subst dw;simp
 ·intro cs dw x hx;simp at dw;subst dw
  obtain⟨c,_,rfl⟩:=List.mem_map.1 hx;exact c.mM
 ·have:=FB hk;simpa using this
 ·intro ι' hι
  have:=cE.ptr (P:=P) (w:=w) (D:=D) (ι:=ι') id 0 0 _ hι rfl
  simpa using this
theorem qI {x:AV} {u:Value} (h:cE P w D ι x u) (hc:x.cells.all AV.cell=true):fo P w D ι x.cells u.cells:=by
 obtain⟨h1,f,h2,h3⟩:=h.cells hc
 exact⟨h1,fun j a ha=>⟨f j,h2 j (List.getElem?_eq_some_iff.1 ha).1,h3 j a ha⟩⟩
theorem Rn {t:TypeId} {x:Operand} {x':O} {cs:List AV} (E:bQ P w D ι env a) (ho:o.op=.box t x) (hx:cO P x=some x') (hb:cU (cK env x')=some cs):Mk P a o w D ι id (.ptr id 0 0) ⟨true,cs.length,[cs]⟩:=by
 have hr:=dm E hx
 unfold cU at hb
 split at hb
 ·rename_i dJ
  simp at hb;subst hb
  have hk:=qI hr dJ
  refine⟨.pointer (some ⟨w.heap.size,0,none⟩),(a.eval x).cells,t,?_,rfl,?_,?_,?_,?_,?_⟩
  ·simp only[execOp,ho,Instr.box,Sem.run_bind]
   simp[newVar,newRow]
  ·simp[hk.1]
  ·intro cs dw;simp at dw;subst dw;rfl
  ·intro cs dw y hy;simp at dw;subst dw
   exact List.all_eq_true.1 dJ y hy
  ·exact FB hk
  ·intro ι' hι
   have:=cE.ptr (P:=P) (w:=w) (D:=D) (ι:=ι') id 0 0 _ hι rfl
   simpa using this
 ·simp at hb
theorem foldl_set:∀(vs:List Value) (n off:Nat) (cells:Array Value),off+n+vs.length<=cells.size->((vs.zipIdx n).foldl (fun cs (x:Value×Nat)=>cs.setIfInBounds (off+x.2) x.1) cells).size=cells.size/\
  ∀k,((vs.zipIdx n).foldl (fun cs (x:Value×Nat)=>cs.setIfInBounds (off+x.2) x.1) cells)[k]? =if off+n<=k/\k<off+n+vs.length then vs[k-(off+n)]? else cells[k]?
 |[],n,off,cells,_=>⟨rfl,fun k=>by simp;intro h1 h2;omega⟩
 |v::r,n,off,cells,h=>by
  simp only[List.length_cons]at h
  obtain⟨h1,h2⟩:=foldl_set r (n+1) off (cells.setIfInBounds (off+n) v) (by simp;omega)
  simp only[List.zipIdx_cons,List.foldl_cons]
  refine⟨by rw[h1];simp,fun k=>?_⟩
  rw[h2 k]
  simp only[List.length_cons]
  by_cases hk:k=off+n
  ·subst hk
   rw[if_neg (by omega),if_pos (by omega)]
   simp[show off+n<cells.size by omega]
  ·by_cases vM:off+n<=k/\k<off+n+(r.length+1)
   ·rw[if_pos (by omega),if_pos vM]
    have:k-(off+n)=(k-(off+(n+1)))+1:=by omega
    rw[this,List.getElem?_cons_succ]
   ·rw[if_neg (by omega),if_neg vM,Array.getElem?_setIfInBounds_ne (by omega)]
theorem vn (place:Nat->Option (Nat×Nat)):∀(ps:List (Nat×Value)) (qs:List (Nat×Nat×AV)) (cells:Array Value) (cs res:List AV),fo P w D ι cs cells->(∀a∈cs,a.cell=true)->ps.length=qs.length->
  (∀(k:Nat) i u o' n x,ps[k]? =some (i,u)->qs[k]? =some (o',n,x)->place i=some (o',n)/\cE P w D ι x u)->cG cs qs=some res->∃jo,Instr.fill place cells ps=some jo/\fo P w D ι res jo/\(∀a∈res,a.cell=true)/\res.length=cs.length:=by
 intro ps
 induction ps with
 |nil=>
  intro qs cells cs res hR hf hl _ hv
  cases qs with
  |nil=>simp[cG]at hv;subst hv;exact⟨cells,rfl,hR,hf,rfl⟩
  |cons q r=>simp at hl
 |cons p ps ih=>
  intro qs cells cs res hR hf hl hp hv
  cases qs with
  |nil=>simp at hl
  |cons q qs=>
   obtain⟨i,u⟩:=p
   obtain⟨oo,n,x⟩:=q
   obtain⟨mH,hr⟩:=hp 0 i u oo n x rfl rfl
   unfold cG at hv
   split at hv
   ·rename_i hc
    obtain⟨c1,c2,c3⟩:=hc
    have hk:=qI hr c3
    have hus:u.cells.size=n:=by rw[hk.1,c1]
    have dw:cells.size=cs.length:=hR.1
    unfold Instr.fill
    simp only[mH]
    rw[if_neg (by rw[hus,dw];simp;omega)]
    obtain⟨s1,s2⟩:=foldl_set u.cells.toList 0 oo cells (by simp;omega)
    have e0:(u.cells.zipIdx.foldl (fun cs (x:Value×Nat)=>cs.setIfInBounds (oo+x.2) x.1) cells)=(u.cells.toList.zipIdx 0).foldl (fun cs (x:Value×Nat)=>cs.setIfInBounds (oo+x.2) x.1) cells:=by
     rw[<-Array.foldl_toList];simp
    have vL:=ih qs (u.cells.zipIdx.foldl (fun cs (x:Value×Nat)=>cs.setIfInBounds (oo+x.2) x.1) cells) (cs.take oo++x.cells++cs.drop (oo+n)) res ?_ ?_ (by simpa using hl) (fun k i u o' n x h1 h2=>hp (k+1) i u o' n x (by simpa using h1) (by simpa using h2)) hv
    ·obtain⟨jo,h1,h2,h3,h4⟩:=vL
     refine⟨jo,h1,h2,h3,?_⟩
     rw[h4];simp;omega
    ·rw[e0]
     refine⟨by rw[s1,dw];simp;omega,fun j a ha=>?_⟩
     rw[s2 j]
     simp only[Nat.add_zero,Array.length_toList]
     by_cases hj:oo<=j/\j<oo+u.cells.size
     ·rw[if_pos hj]
      rw[List.append_assoc,List.getElem?_append_right (by simp;omega),List.getElem?_append_left (by simp;omega)]at ha
      simp only[List.length_take]at ha
      rw[show min oo cs.length=oo by omega]at ha
      simpa using hk.2 _ _ ha
     ·rw[if_neg hj]
      by_cases T8:j<oo
      ·rw[List.append_assoc,List.getElem?_append_left (by simp;omega),List.getElem?_take,if_pos T8]at ha
       exact hR.2 _ _ ha
      ·rw[List.getElem?_append_right (by simp;omega)]at ha
       simp only[List.length_append,List.length_take,List.getElem?_drop]at ha
       rw[show oo+n+(j-(min oo cs.length+x.cells.length))=j by omega]at ha
       exact hR.2 _ _ ha
    ·intro b hb
     rcases List.mem_append.1 hb with hb|hb
     ·rcases List.mem_append.1 hb with hb|hb
      ·exact hf b (List.mem_of_mem_take hb)
      ·exact List.all_eq_true.1 c3 b hb
     ·exact hf b (List.mem_of_mem_drop hb)
   ·simp at hv
theorem xw {fs:List Field} (h:∀f∈fs,(P.info? f.type).isSome=true):∃z8,fs.mapM (fun f=>(P.info? f.type).map fun i=>(f.offset,i.size))=some z8/\∀(i:Nat) (f:Field) (n:Nat),fs[i]? =some f->dS P f.type=some n->z8[i]? =some (f.offset,n):=by
 induction fs with
 |nil=>exact⟨[],rfl,fun i f n h=>by simp at h⟩
 |cons f r ih=>
  obtain⟨q,h1,h2⟩:=ih (fun x hx=>h x (List.mem_cons_of_mem _ hx))
  obtain⟨i,hi⟩:=Option.isSome_iff_exists.1 (h f (by simp))
  refine⟨(f.offset,i.size)::q,by simp[hi,h1],fun k x n hk hn=>?_⟩
  cases k with
  |zero=>simp at hk;subst hk;simp[dS,hi]at hn;subst hn;rfl
  |succ k=>simp at hk ⊢;exact h2 k x n hk hn
theorem qc {ps:List (Nat×Operand)} {l:List (Nat×O)} (E:bQ P w D ι env a) (h:ps.mapM (fun(x:Nat×Operand)=>(cO P x.2).map (x.1,·))=some l):l.length=ps.length/\∀(k i:Nat) (y:O),l[k]? =some (i,y)->∃x,ps[k]? =some (i,x)/\cO P x=some y:=by
 induction ps generalizing l with
 |nil=>simp at h;subst h;simp
 |cons p r ih=>
  simp only[List.mapM_cons,Option.bind_eq_bind,Option.bind_eq_some_iff]at h
  obtain⟨c,hc,pT,dw,h⟩:=h
  simp at h;subst h
  obtain⟨h1,h2⟩:=ih dw
  simp only[Option.map_eq_some_iff]at hc
  obtain⟨y,hy,rfl⟩:=hc
  refine⟨by simp[h1],fun k i z hk=>?_⟩
  cases k with
  |zero=>simp at hk;obtain⟨rfl,rfl⟩:=hk;exact⟨p.2,rfl,hy⟩
  |succ k=>simp at hk ⊢;exact h2 k i z hk
theorem Dd {fs:Array Field} {l:List (Nat×O)} {q:List (Nat×Nat×O)} (h:sn P fs l=some q):q.length=l.length/\∀(k oo n:Nat) (y:O),q[k]? =some (oo,n,y)->∃(i:Nat) (f:Field),l[k]? =some (i,y)/\fs[i]? =some f/\f.offset=oo/\dS P f.type=some n:=by
 induction l generalizing q with
 |nil=>simp[sn]at h;subst h;simp
 |cons p r ih=>
  obtain⟨i,x⟩:=p
  unfold sn at h
  split at h
  ·rename_i f hf
   split at h
   ·rename_i n hn
    simp only[Option.map_eq_some_iff]at h
    obtain⟨q',Lt,rfl⟩:=h
    obtain⟨h1,h2⟩:=ih Lt
    refine⟨by simp[h1],fun k oo m y hk=>?_⟩
    cases k with
    |zero=>simp at hk;obtain⟨rfl,rfl,rfl⟩:=hk;exact⟨i,f,rfl,hf,rfl,hn⟩
    |succ k=>simp only[List.getElem?_cons_succ]at hk ⊢;exact h2 k oo m y hk
   ·simp at h
  ·simp at h
theorem fo.agg {xs:List AV} {vs:Array Value} (h:fo P w D ι xs vs) (hf:∀a∈xs,a.cell=true):cE P w D ι (.agg xs) (.agg vs):=
 .agg xs vs (fun j=>vs.getD j undef) h.1 hf (fun j hj=>by
  have:j<vs.size:=by rw[h.1];exact hj
  simp[this]) (fun j a ha=>by
  obtain⟨u,h1,h2⟩:=h.2 j a ha
  simpa[Array.getD_eq_getD_getElem?,h1]using h2)
theorem Mp {t:TypeId} {ps:Array (Nat×Operand)} {fs:Array Field} {z:List K} {l:List (Nat×O)} {q:List (Nat×Nat×O)} {cs:List AV} (E:bQ P w D ι env a) (ho:o.op=.build t ps) (ht:P.underlying t=some (.struct fs)) (hz:jH P t=some z) (hl:sr P ps=some l)
  (rl:∀f∈fs.toList,(P.info? f.type).isSome=true) (hq:sn P fs l=some q) (hv:cG (z.map K.av) (q.map fun(o,n,x)=>(o,n,cK env x))=some cs):oh P a o w D ι (.agg cs):=by
 obtain⟨it,zv,hi,pV,hs,hm,Fs⟩:=jT hz
 obtain⟨z8,mH,Uq⟩:=xw rl
 have hk:=kL (P:=P) (w:=w) (D:=D) (ι:=ι) hm
 obtain⟨n1,r1⟩:=qc E hl
 obtain⟨n2,r2⟩:=Dd hq
 obtain⟨jo,h1,h2,h3,_⟩:=vn (P:=P) (w:=w) (D:=D) (ι:=ι) (z8.toArray[·]?) (ps.toList.map fun(i,x)=>(i,a.eval x)) (q.map fun(o,n,x)=>(o,n,cK env x)) zv.cells _ cs (by simpa using hk)
  (fun b hb=>by obtain⟨c,_,rfl⟩:=List.mem_map.1 hb;exact c.mM) (by simp[n2,n1]) (fun k i u o' n x xd vM=>by
   simp only[List.getElem?_map,Option.map_eq_some_iff]at xd vM
   obtain⟨⟨i',x'⟩,hp,e1⟩:=xd
   obtain⟨⟨o2,n',y⟩,Lt,e2⟩:=vM
   simp only[Prod.mk.injEq]at e1 e2
   obtain⟨rfl,rfl⟩:=e1
   obtain⟨rfl,rfl,rfl⟩:=e2
   obtain⟨i2,f,IM,hf,rfl,hn⟩:=r2 _ _ _ _ Lt
   obtain⟨x2,AN,hc⟩:=r1 _ _ _ IM
   rw[hp]at AN
   simp only[Option.some.injEq,Prod.mk.injEq]at AN
   obtain⟨rfl,rfl⟩:=AN
   exact⟨by simpa using Uq _ _ _ (by simpa using hf) hn,dm E hc⟩) hv
 refine⟨.agg jo,?_,h2.agg h3⟩
 have hb:P.built t ((ps.map fun(i,x)=>(i,a.eval x)).toList)=some jo:=by
  unfold Program.built
  simp only[hi,ht,pV,mH]
  simpa using h1
 simp only[execOp,ho,Sem.run_bind,run_build w t _ _ hb,Result.andThen_ok,Sem.run_pure]
theorem Kn {t e:TypeId} {len n:Nat} {ps:Array (Nat×Operand)} {z:List K} {l:List (Nat×O)} {cs:List AV} (E:bQ P w D ι env a) (ho:o.op=.build t ps) (ht:P.underlying t=some (.array len e)) (hz:jH P t=some z) (hl:sr P ps=some l) (hn:dS P e=some n)
  (hv:cG (z.map K.av) ((l.map fun(x:Nat×O)=>(x.1*n,n,x.2)).map fun(o,n,x)=>(o,n,cK env x))=some cs):oh P a o w D ι (.agg cs):=by
 obtain⟨it,zv,hi,pV,hs,hm,Fs⟩:=jT hz
 have hk:=kL (P:=P) (w:=w) (D:=D) (ι:=ι) hm
 obtain⟨n1,r1⟩:=qc E hl
 obtain⟨ie,Hz,ft⟩:∃ie,P.info? e=some ie/\ie.size=n:=by simpa[dS]using hn
 obtain⟨jo,h1,h2,h3,_⟩:=vn (P:=P) (w:=w) (D:=D) (ι:=ι) (fun i=>some (i*ie.size,ie.size)) (ps.toList.map fun(i,x)=>(i,a.eval x)) ((l.map fun(x:Nat×O)=>(x.1*n,n,x.2)).map fun(o,n,x)=>(o,n,cK env x)) zv.cells _ cs (by simpa using hk)
  (fun b hb=>by obtain⟨c,_,rfl⟩:=List.mem_map.1 hb;exact c.mM) (by simp[n1]) (fun k i u o' n' x xd vM=>by
   simp only[List.getElem?_map,Option.map_eq_some_iff]at xd vM
   obtain⟨⟨i',x'⟩,hp,e1⟩:=xd
   obtain⟨⟨o2,n2,y⟩,⟨⟨i2,y2⟩,IM,e3⟩,e2⟩:=vM
   simp only[Prod.mk.injEq]at e1 e2 e3
   obtain⟨rfl,rfl⟩:=e1
   obtain⟨rfl,rfl,rfl⟩:=e2
   obtain⟨rfl,rfl,rfl⟩:=e3
   obtain⟨x2,AN,hc⟩:=r1 _ _ _ IM
   rw[hp]at AN
   simp only[Option.some.injEq,Prod.mk.injEq]at AN
   obtain⟨rfl,rfl⟩:=AN
   exact⟨by rw[ft],dm E hc⟩) hv
 refine⟨.agg jo,?_,h2.agg h3⟩
 have hb:P.built t ((ps.map fun(i,x)=>(i,a.eval x)).toList)=some jo:=by
  unfold Program.built
  simp only[hi,ht,pV,Hz]
  simpa using h1
 simp only[execOp,ho,Sem.run_bind,run_build w t _ _ hb,Result.andThen_ok,Sem.run_pure]
theorem vm:∀(vs:List AV) (sz i:Nat) (rs:List (List AV)) (cs:List AV),0<sz->cs.length=(i+vs.length)*sz->rowsOf sz vs=some rs->
  cG cs ((vs.zipIdx i).map fun(v,j)=>(j*sz,sz,v))=some (cs.take (i*sz)++rs.flatten)/\rs.length=vs.length/\(∀c∈rs,c.length=sz)/\∀c∈rs,∀x∈c,x.cell=true
 |[],sz,i,rs,cs,_,hl,h=>by
  simp[rowsOf]at h;subst h
  simp at hl
  simp[cG,List.take_of_length_le (show cs.length<=i*sz by omega)]
 |v::r,sz,i,rs,cs,ft,hl,h=>by
  simp only[rowsOf,Option.bind_eq_some_iff,Option.map_eq_some_iff]at h
  obtain⟨c,hc,rs',yp,rfl⟩:=h
  unfold rowOf at hc
  split at hc
  ·rename_i zz
   simp at hc;subst hc
   obtain⟨pU,xb⟩:=zz
   simp only[List.length_cons]at hl
   have hmul:(i+(r.length+1))*sz=i*sz+sz+r.length*sz:=by rw[Nat.add_mul,Nat.add_mul];omega
   have ih:=vm r sz (i+1) rs' (cs.take (i*sz)++v.cells++cs.drop (i*sz+sz)) ft (by
    simp[pU];rw[Nat.add_mul,Nat.add_mul];omega) yp
   refine⟨?_,by simp[ih.2.1],?_,?_⟩
   ·simp only[List.zipIdx_cons,List.map_cons,cG]
    rw[if_pos ⟨pU,by omega,xb⟩,ih.1]
    congr 1
    rw[List.flatten_cons,<-List.append_assoc]
    congr 1
    rw[Nat.add_mul,Nat.one_mul,List.take_append_of_le_length (by simp[pU];omega)]
    rw[List.take_of_length_le (by simp[pU];omega)]
   ·intro c' kR;rcases List.mem_cons.1 kR with rfl|kR
    ·exact pU
    ·exact ih.2.2.1 c' kR
   ·intro c' kR;rcases List.mem_cons.1 kR with rfl|kR
    ·exact List.all_eq_true.1 xb
    ·exact ih.2.2.2 c' kR
  ·simp at hc
theorem flat_get {α:Type} {ot:List (List α)} {sz:Nat} (h:∀cs∈ot,cs.length=sz) {i j:Nat} {cs:List α} {a:α} (hi:ot[i]? =some cs) (hj:cs[j]? =some a):ot.flatten[i*sz+j]? =some a:=by
 induction ot generalizing i with
 |nil=>simp at hi
 |cons c r ih=>
  have hc:c.length=sz:=h c (by simp)
  cases i with
  |zero=>
   simp at hi;subst hi
   have dM:=(List.getElem?_eq_some_iff.1 hj).1
   rw[List.flatten_cons,List.getElem?_append_left (by omega)];simpa using hj
  |succ i=>
   rw[List.flatten_cons,List.getElem?_append_right (by rw[hc,Nat.succ_mul];omega)]
   have:(i+1)*sz+j-c.length=i*sz+j:=by rw[hc,Nat.succ_mul];omega
   rw[this]
   exact ih (fun cs dw=>h cs (List.mem_cons_of_mem _ dw)) (by simpa using hi)
theorem Iv {α:Type} {ot:List (List α)} {sz:Nat} (h:∀cs∈ot,cs.length=sz):ot.flatten.length=ot.length*sz:=by
 induction ot with
 |nil=>simp
 |cons c r ih=>
  rw[List.flatten_cons,List.length_append,h c (by simp),ih (fun cs dw=>h cs (List.mem_cons_of_mem _ dw)),List.length_cons,Nat.succ_mul];omega
theorem oY {zv:Value} {z:List K} {n:Nat} (hm:zv.cells.toList.mapM Gx=some z) (lp:0<z.length):∀k,k<n->∃c,z[k % z.length]? =some c/\((Array.range n).map (zv.cells[· % zv.cells.size]!))[k]? =some c.val:=by
 intro k hk
 obtain⟨h1,h2⟩:=rG hm
 have ft:zv.cells.size=z.length:=by simpa using h1.symm
 have dM:k % z.length<z.length:=Nat.mod_lt _ lp
 refine⟨z[k % z.length],List.getElem?_eq_getElem dM,?_⟩
 have h3:=h2 _ _ (List.getElem?_eq_getElem dM)
 simp only[Array.getElem?_toList]at h3
 have BB:k % z.length<zv.cells.size:=by rw[ft];exact dM
 rw[Array.getElem?_map,Array.getElem?_range,if_pos hk]
 simp only[Option.map_some]
 rw[ft,getElem!_pos zv.cells (k % z.length) BB]
 rw[Array.getElem?_eq_getElem BB]at h3
 exact h3
theorem Jn {t e:TypeId} {len sz:Nat} {ps:Array (Nat×Operand)} {z:List K} {l:List (Nat×O)} {rs:List (List AV)} (E:bQ P w D ι env a) (ho:o.op=.buildSlice t len ps) (ht:P.underlying t=some (.slice e)) (ft:dS P e=some (sz+1)) (hz:jH P e=some z)
  (hl:sr P ps=some l) (Lu:len*(sz+1)<=4096) (Q6:l.map (·.1)=List.range len) (hv:rowsOf (sz+1) (l.map fun x=>cK env x.2)=some rs):Mk P a o w D ι id (.own id 0 len) ⟨true,sz+1,rs⟩:=by
 obtain⟨it,zv,hi,pV,hs,hm,Fs⟩:=jT hz
 have jD:it.size=sz+1:=by simpa[dS,hi]using ft
 obtain⟨n1,r1⟩:=qc E hl
 have Lk:l.length=len:=by have:=congrArg List.length Q6;simpa using this
 by_cases h0:len=0
 ·subst h0
  have BA:l=[]:=List.length_eq_zero_iff.1 Lk
  subst BA
  simp[rowsOf]at hv;subst hv
  have PO:ps= #[]:=by
   apply Array.ext';apply List.eq_nil_of_length_eq_zero;rw[<-n1];rfl
  subst PO
  refine⟨.slice (some ⟨w.heap.size,0,none⟩) 0 0, #[],e,?_,rfl,by simp,by simp,by simp,fun i j cs x hi=>by simp at hi,fun ι' hι=>?_⟩
  ·simp[execOp,ho,Instr.buildSlice,run_underlying ht,sizeOf,typeInfo,hi,Instr.fill,newRow,Array.range_zero']
  ·exact .own _ 0 0 0 0 _ hι rfl (Nat.le_refl _) (.inl rfl) (by simp) (by simp[maxLen])
 ·have yu:fo P w D ι ((List.range (len*(sz+1))).map fun k=>(z.getD (k % z.length) .cC).av) ((Array.range (len*(sz+1))).map (zv.cells[· % zv.cells.size]!)):=by
   refine⟨by simp,fun j x hx=>?_⟩
   simp only[List.getElem?_map,Option.map_eq_some_iff]at hx
   obtain⟨k,hk,rfl⟩:=hx
   have lj:=(List.getElem?_eq_some_iff.1 hk).1
   simp at lj
   rw[List.getElem?_range lj]at hk
   injection hk with hk
   subst hk
   obtain⟨c,hc,Sn⟩:=oY hm (by rw[Fs,jD];omega) j lj
   exact⟨c.val,Sn,by rw[List.getD_eq_getElem?_getD,hc];exact wD c⟩
  obtain⟨f1,f2,f3,f4⟩:=vm (l.map fun x=>cK env x.2) (sz+1) 0 rs ((List.range (len*(sz+1))).map fun k=>(z.getD (k % z.length) .cC).av) (by omega) (by simp[Lk]) hv
  obtain⟨jo,h1,h2,h3,h4⟩:=vn (P:=P) (w:=w) (D:=D) (ι:=ι) (fun i=>some (i*it.size,it.size)) (ps.toList.map fun(i,x)=>(i,a.eval x)) _ _ _ _ yu
   (fun b hb=>by obtain⟨c,_,rfl⟩:=List.mem_map.1 hb;exact K.mM _) (by simp[n1]) (fun k i u o' n x xd vM=>by
   simp only[List.getElem?_map,Option.map_eq_some_iff]at xd vM
   obtain⟨⟨i',x'⟩,hp,e1⟩:=xd
   obtain⟨⟨v2,j2⟩,Lt,e2⟩:=vM
   simp only[Prod.mk.injEq]at e1 e2
   obtain⟨rfl,rfl⟩:=e1
   obtain⟨rfl,rfl,rfl⟩:=e2
   rw[List.getElem?_zipIdx]at Lt
   simp only[List.getElem?_map,Option.map_map,Option.map_eq_some_iff,Function.comp_apply,Prod.mk.injEq,Nat.zero_add]at Lt
   obtain⟨⟨i2,y⟩,IM,rfl,rfl⟩:=Lt
   obtain⟨x2,AN,hc⟩:=r1 _ _ _ IM
   rw[hp]at AN
   simp only[Option.some.injEq,Prod.mk.injEq]at AN
   obtain⟨rfl,rfl⟩:=AN
   have yj:(l.map (·.1))[k]? =some i':=by rw[List.getElem?_map,IM];rfl
   have lj:=(List.getElem?_eq_some_iff.1 yj).1
   rw[Q6]at yj
   simp at lj
   rw[List.getElem?_range (by omega)]at yj
   injection yj with yj
   subst yj
   exact⟨by rw[jD],dm E hc⟩) f1
  simp only[Nat.zero_mul,List.take_zero,List.nil_append,List.length_map]at h2 h3 h4 f2
  have dw:jo.size=len*(sz+1):=by rw[h2.1,h4];simp
  refine⟨.slice (some ⟨w.heap.size,0,none⟩) len len,jo,e,?_,rfl,?_,f3,f4,fun i j cs x qN hj=>h2.2 _ _ (flat_get f3 qN hj),fun ι' hι=>?_⟩
  ·have fZ:=run_buildSlice (P:=P) w t e len (ps.map fun(i,x)=>(i,a.eval x)) jo it zv ht hi pV (by rw[jD];omega) (by rw[jD];exact Nat.mul_ne_zero h0 (by omega)) (by rw[<-jD]at h1;simpa using h1)
   simp only[execOp,ho,Sem.run_bind,fZ,Result.andThen_ok,Sem.run_pure]
  ·dsimp only;rw[f2,Lk,dw];exact Nat.le_refl _
  ·refine .own _ 0 len 0 len _ hι rfl (Nat.le_refl _) (.inr (by simp)) ?_ (by simp only[maxLen];have:=Nat.le_mul_of_pos_right len (show 0<sz+1 by omega);omega)
   dsimp only;rw[dw];simp
theorem GJ {t e:TypeId} {it:TypeInfo} {m:Nat} {z:List K} {l c:Operand} {l' c':O} {n:Nat} {r:Row} (E:bQ P w D ι env a) (ho:o.op=.makeSlice t l c) (ht:P.underlying t=some (.slice e)) (ft:dS P e=some (m+1)) (hz:jH P e=some z) (Lh:P.info? e=some it) (hby:it.bytes<=32768)
  (hl:cO P l=some l') (hc:cO P c=some c') (hv:iA z (cK env l') (cK env c')=some (n,r)):Mk P a o w D ι id (.own id 0 n) r:=by
 obtain⟨it',zv,hi,pV,hs,hm,Fs⟩:=jT hz
 rw[Lh]at hi;injection hi with hi;subst hi
 have jD:it.size=m+1:=by simpa[dS,Lh]using ft
 unfold iA at hv
 split at hv
 ·rename_i k1 ln k2 cn e1 e2
  split at hv
  ·rename_i hb
   obtain⟨b1,b2,b3⟩:=hb
   simp at hv
   obtain⟨rfl,rfl⟩:=hv
   have r1:=dr (e1▸dm E hl)
   have r2:=dr (e2▸dm E hc)
   unfold dL at b3
   have MJ:(it.bytes:Int)*cn<=281474976710656:=by
    have h1:(it.bytes:Int)<=32768:=by omega
    have h2:(it.bytes:Int)*cn<=32768*16777216:=Int.mul_le_mul h1 (by omega) (by omega) (by omega)
    omega
   have fZ:=run_make (P:=P) w t e it zv ht Lh pV k1 k2 ln cn b1 b2 MJ (by omega)
   have kg:∀k,k<cn.toNat*it.size->∃x,z[k % z.length]? =some x/\(madeCells zv.cells (cn.toNat*it.size))[k]? =some x.val:=fun k hk=>oY hm (by rw[Fs,jD];omega) k hk
   refine⟨.slice (some ⟨w.heap.size,0,none⟩) ln.toNat cn.toNat,madeCells zv.cells (cn.toNat*it.size),e,by simp only[execOp,ho,r1,r2,Sem.run_bind,fZ,Result.andThen_ok,Sem.run_pure],rfl,?_,?_,?_,?_,fun ι' hι=>?_⟩
   ·simp only[List.length_replicate,size_madeCells,Fs]
    exact Nat.mul_le_mul_right _ (by omega)
   ·intro cs dw
    have:=List.eq_of_mem_replicate dw
    subst this;simp
   ·intro cs dw x hx
    have:=List.eq_of_mem_replicate dw
    subst this
    obtain⟨c,_,rfl⟩:=List.mem_map.1 hx;exact c.mM
   ·intro i j cs x qN hj
    have mb:=(List.getElem?_eq_some_iff.1 qN).1
    have:=List.eq_of_mem_replicate (List.mem_of_getElem? qN)
    subst this
    simp only[List.length_replicate]at mb
    simp only[List.getElem?_map,Option.map_eq_some_iff]at hj
    obtain⟨q,hq,rfl⟩:=hj
    have gR:=(List.getElem?_eq_some_iff.1 hq).1
    dsimp only
    obtain⟨x,hx,AN⟩:=kg (i*z.length+j) (by
     rw[<-Fs]
     calc i*z.length+j<i*z.length+z.length:=by omega
      _=(i+1)*z.length:=by rw[Nat.add_mul,Nat.one_mul]
      _<=cn.toNat*z.length:=Nat.mul_le_mul_right _ (by omega))
    rw[Nat.mul_comm i,Nat.mul_add_mod,Nat.mod_eq_of_lt gR,hq]at hx
    injection hx with hx;subst hx
    exact⟨_,by rw[Nat.mul_comm i]at AN ⊢;exact AN,wD q⟩
   ·refine .own _ 0 _ 0 _ _ hι rfl (by omega) (.inr (by simp)) ?_ (by simp only[maxLen];omega)
    dsimp only;rw[size_madeCells,Fs];simp
  ·simp at hv
 ·simp at hv
end
end Go.Proofs.YtgoelphibofcmaaGreat.V

namespace Go.Proofs.YtgoelphibofcmaaGreat.V
open Go.RowKit
variable {P:Program} {w w':World} {D D':Nat->Prop} {ι ι':Names}
def EO (P:Program) (k:TypeId) (m:MK):Prop:=
 (∃s,m=⟨false,[s]⟩/\fu P k=some s)∨
 (∃fs ts,m=⟨true,ts⟩/\P.underlying k=some (.struct fs)/\eG P 4 0 fs.toList=some ts/\P.stoodInHeld k=false/\∀f∈fs.toList,(fu P f.type).isSome=true)
theorem qY {t:TypeId} {m:MK} {z:K} (h:sq P t=some (m,z)):∃k e i zv,P.underlying t=some (.map k e)/\P.info? e=some i/\i.zero=some zv/\Gx zv=some z/\EO P k m:=by
 unfold sq at h
 split at h
 ·rename_i k e ht
  split at h
  ·rename_i zv s h1 h2 h3
   simp only[Option.map_eq_some_iff,Prod.mk.injEq]at h
   obtain⟨z',hz,rfl,rfl⟩:=h
   simp only[Option.bind_eq_some_iff]at h2
   obtain⟨i,hi,pV⟩:=h2
   exact⟨k,e,i,zv,ht,hi,pV,hz,.inl ⟨s,rfl,h3⟩⟩
  ·rename_i zv fs h1 h2 h3 h4
   split at h
   ·rename_i ts z' xE hz
    split at h
    ·rename_i hc
     simp only[Option.some.injEq,Prod.mk.injEq]at h
     obtain⟨rfl,rfl⟩:=h
     simp only[Option.bind_eq_some_iff]at h2
     obtain⟨i,hi,pV⟩:=h2
     simp only[Bool.not_eq_true',List.all_eq_true]at hc
     exact⟨k,e,i,zv,ht,hi,pV,hz,.inr ⟨fs,ts,rfl,h4,xE,hc.1,hc.2⟩⟩
    ·cases h
   ·cases h
  ·cases h
 ·cases h
theorem wH {t:TypeId} {s:TS} (ht:fu P t=some s) (em:Bool) (n:Nat) (v:Value):(Instr.checkKey em (n+1) t v).run P w=.ok () w:=by
 unfold Instr.checkKey
 cases s with
 |tB=>simp[run_underlying (ph ht)]
 |tS=>simp[run_underlying (pk ht)]
 |tI=>
  obtain⟨q,hq⟩:=pj ht
  simp[run_underlying hq]
theorem wI (em:Bool) (n:Nat) (vs:Array Value):∀(d:Nat) (fs:List Field) (off:Nat) (ts:List TS),eG P (d+1) off fs=some ts->(∀f∈fs,(fu P f.type).isSome=true)->off+ts.length<=vs.size->
  Sem.run P (forIn fs PUnit.unit fun f (_:PUnit)=>if f.name≠ "_" then do
    let x <-Go.part f.type vs f.offset
    Instr.checkKey em (n+1) f.type x
    pure (ForInStep.yield PUnit.unit)
   else pure (ForInStep.yield PUnit.unit)) w=Result.ok PUnit.unit w
 |d,[],off,ts,_,_,_=>by simp
 |d,f::r,off,ts,hf,hs,hl=>by
  rw[ye]at hf
  split at hf
  ·rename_i hcond
   obtain⟨ho,gU⟩:=hcond
   split at hf
   ·rename_i s PU
    split at hf
    ·rename_i uz
     simp only[Option.map_eq_some_iff]at hf
     obtain⟨Nf,hr,rfl⟩:=hf
     simp only[List.length_cons]at hl
     have ih:=wI em n vs d r (off+1) Nf hr (fun f hf=>hs f (List.mem_cons_of_mem _ hf)) (by omega)
     have hu:vs[off]? =some vs[off]:=by simp
     simp only[List.forIn_cons,Sem.run_bind,if_pos gU,ho,mm uz hu,Result.andThen_ok,wH PU,Sem.run_pure]
     exact ih
    ·cases hf
   ·rename_i hn
    have:=hs f (by simp)
    rw[hn]at this;cases this
  ·cases hf
theorem Em {k:TypeId} {m:MK} (hk:EO P k m) (em:Bool) (key:AV) (u:Value) (uz:key.isAgg=m.ka) (hlen:key.cells.length=m.ks) (hr:cE P w D ι key u):(Instr.checkKey em 10000 k u).run P w=.ok () w:=by
 rcases hk with⟨s,rfl,hs⟩|⟨fs,ts,rfl,rl,xE,dB,dJ⟩
 ·exact wH hs em 9999 u
 ·cases key<;>simp[AV.isAgg]at uz
  rename_i cs
  obtain⟨vs,f,rfl,h1,_⟩:=iP hr
  unfold Instr.checkKey
  simp only[Sem.run_bind,run_underlying rl,Result.andThen_ok]
  rw[<-Array.forIn_toList]
  have h:=wI (P:=P) (w:=w) em 9998 vs 3 fs.toList 0 ts xE dJ (by simp[AV.cells,MK.ks]at hlen;omega)
  rw[h]
  rfl
theorem HZ (a b:ByteArray):(a==b)=decide (a=b):=by
 by_cases h:a=b
 ·subst h;rw[decide_eq_true rfl]
  obtain⟨x⟩:=a
  show(x==x)=true
  simp
 ·rw[decide_eq_false h,Bool.eq_false_iff]
  intro hc
  obtain⟨x⟩:=a
  obtain⟨y⟩:=b
  exact h (by rw[show x=y by simpa using(show(x==y)=true from hc)])
theorem JP {t:TypeId} {s:TS} {x y:AV} {u v:Value} {b:Bool} {d:TypeDesc} (ht:fu P t=some s) (hd:P.underlying t=some d) (he:gq s x y=some b) (hx:cE P w D ι x u) (hy:cE P w D ι y v):Instr.sameNow d u v=some b:=by
 unfold gq at he
 split at he
 ·rename_i k n k' n'
  split at he
  ·rename_i hk
   subst hk
   simp at he;subst he
   obtain⟨q,hq⟩:=pj ht
   rw[hd]at hq;injection hq with hq;subst hq
   rw[dr hx,dr hy]
   simp[Instr.sameNow]
   rfl
  ·cases he
 ·simp at he;subst he
  have hq:=ph ht
  rw[hd]at hq;injection hq with hq;subst hq
  rw[e9 hx,e9 hy];rfl
 ·rename_i a c
  simp at he;subst he
  have hq:=pk ht
  rw[hd]at hq;injection hq with hq;subst hq
  rw[fC hx,fC hy]
  simp only[Instr.sameNow,HZ]
 ·cases he
def Found (es:List MapEntry) (i:Nat) (r:Option Nat) (res:Option (Nat×Value)):Prop:=(r=none/\res=none)∨∃j e,r=some (i+j)/\es[j]? =some e/\res=some (i+j,e.val)
theorem vw {e:MapEntry} {es:List MapEntry} {i:Nat} {r:Option Nat} {res:Option (Nat×Value)} (h:Found es (i+1) r res):Found (e::es) i r res:=by
 rcases h with h|⟨j,x,h1,h2,h3⟩
 ·exact .inl h
 ·exact .inr ⟨j+1,x,by rw[h1];congr 1;omega,by simpa using h2,by rw[h3];congr 2;omega⟩
theorem Bj {t:TypeId} {s:TS} {d:TypeDesc} {x:AV} {u:Value} (ht:fu P t=some s) (hd:P.underlying t=some d) (hx:cE P w D ι x u):∀(rows:List (List AV)) (es:List MapEntry) (i:Nat) (r:Option Nat),es.length=rows.length->
  (∀(j:Nat) (cs:List AV),rows[j]? =some cs->∃(e:MapEntry) (kv:AV),es[j]? =some e/\cs.head? =some kv/\cE P w D ι kv e.key)->ga ⟨false,[s]⟩ [x] rows i=some r->∃res,Instr.findNow d u es i=some res/\Found es i r res
 |[],[],i,r,_,_,h=>by
  simp[ga]at h;subst h
  exact⟨none,rfl,.inl ⟨rfl,rfl⟩⟩
 |[],e::es,i,r,hl,_,h=>by simp at hl
 |cs::rows,[],i,r,hl,_,h=>by simp at hl
 |cs::rows,e::es,i,r,hl,hr,h=>by
  obtain⟨e',kv,Ld,hk,gH⟩:=hr 0 cs rfl
  simp at Ld;subst Ld
  have dw:cs.take (MK.ks ⟨false,[s]⟩)=[kv]:=by
   cases cs with
   |nil=>simp at hk
   |cons a l=>simp at hk;subst hk;simp[MK.ks]
  unfold ga at h
  rw[dw]at h
  cases hq:gq s x kv with
  |none=>simp[fh,hq]at h
  |some b=>
   have hs:=JP ht hd hq hx gH
   cases b with
   |true=>
    simp[fh,hq]at h;subst h
    exact⟨some (i,e.val),by simp[Instr.findNow,hs],.inr ⟨0,e,rfl,rfl,rfl⟩⟩
   |false=>
    simp[fh,hq]at h
    obtain⟨res,h1,h2⟩:=Bj ht hd hx rows es (i+1) r (by simpa using hl) (fun j cs hj=>hr (j+1) cs (by simpa using hj)) h
    exact⟨res,by simp[Instr.findNow,hs,h1],vw h2⟩
theorem pW {t:TypeId} {fs:Array Field} {ts:List TS} {xs ys:List AV} {vs us:Array Value} {b:Bool} (rl:P.underlying t=some (.struct fs)) (dB:P.stoodInHeld t=false) (xE:eG P 4 0 fs.toList=some ts) (hx:fo P w D ι xs vs) (hy:fo P w D ι ys us) (hv:fh ts xs ys=some b):(Op.equal t (.agg vs) (.agg us)).run P w=.ok b w:=by
 obtain⟨l1,l2⟩:=rh hv
 have q:=rQ (w:=w) 4 fs.toList 0 ts xE 9998 (by omega) xs ys vs us b hx hy (by simpa[List.take_of_length_le,l1,l2]using hv)
 have MM:P.fieldsOf t=fs:=by simp[Program.fieldsOf,rl]
 unfold Op.equal
 rw[show Op.maxDepth=9999+1 from rfl,run_equalIn_struct w 9999 t _ _ (by rw[MM];exact rl) dB,MM,q]
theorem rN {cs:List AV} {v:Value} (h:cE P w D ι (.agg cs) v):∃vs,v=.agg vs/\fo P w D ι cs vs:=by
 obtain⟨vs,f,rfl,n1,_,f1,r1⟩:=iP h
 exact⟨vs,rfl,n1,fun j a ha=>⟨f j,f1 j (List.getElem?_eq_some_iff.1 ha).1,r1 j a ha⟩⟩
theorem Bi {t:TypeId} {fs:Array Field} {ts:List TS} {xs:List AV} {vs:Array Value} (rl:P.underlying t=some (.struct fs)) (dB:P.stoodInHeld t=false) (xE:eG P 4 0 fs.toList=some ts) (hx:fo P w D ι xs vs):∀(rows:List (List AV)) (es:List MapEntry) (i:Nat) (r:Option Nat),es.length=rows.length->
  (∀(j:Nat) (cs:List AV),rows[j]? =some cs->∃e:MapEntry,es[j]? =some e/\cE P w D ι (.agg (cs.take ts.length)) e.key)->ga ⟨true,ts⟩ xs rows i=some r->∃res,(Instr.findAsking t (.agg vs) es i).run P w=.ok res w/\Found es i r res
 |[],[],i,r,_,_,h=>by
  simp[ga]at h;subst h
  exact⟨none,by simp[Instr.findAsking],.inl ⟨rfl,rfl⟩⟩
 |[],e::es,i,r,hl,_,h=>by simp at hl
 |cs::rows,[],i,r,hl,_,h=>by simp at hl
 |cs::rows,e::es,i,r,hl,hr,h=>by
  obtain⟨e',Ld,gH⟩:=hr 0 cs rfl
  simp at Ld;subst Ld
  obtain⟨us,hk,hy⟩:=rN gH
  unfold ga at h
  simp only[MK.ks]at h
  split at h
  ·rename_i hq
   simp at h;subst h
   have q:=pW rl dB xE hx hy hq
   exact⟨some (i,e.val),by simp[Instr.findAsking,hk,q],.inr ⟨0,e,rfl,rfl,rfl⟩⟩
  ·rename_i hq
   have q:=pW rl dB xE hx hy hq
   obtain⟨res,h1,h2⟩:=Bi rl dB xE hx rows es (i+1) r (by simpa using hl) (fun j cs hj=>hr (j+1) cs (by simpa using hj)) h
   exact⟨res,by simp[Instr.findAsking,hk,q,h1],vw h2⟩
  ·cases h
theorem vh {a:AV} (h:a.isAgg=false):a.cells=[a]:=by cases a<;>simp_all [AV.isAgg,AV.cells]
theorem vp {k:TypeId} {m:MK} {B:sa} {r:Row} (hk:EO P k m) {key:AV} {u:Value} (hr:cE P w D ι key u) {es:Array MapEntry} (ft:es.size=r.rows.length)
  (hM:∀(i:Nat) (cs:List AV),r.rows[i]? =some cs->∃(e:MapEntry) (kv vv:AV),es[i]? =some e/\part m.ka m.ks cs=some kv/\cs[m.ks]? =some vv/\cE P w D ι kv e.key/\cE P w D ι vv e.val) {fi:Option Nat} (h:fM m key r.rows=some fi):
  (∀em,(Instr.checkKey em 10000 k u).run P w=.ok () w)/\∃res,(Instr.findKey k u es.toList).run P w=.ok res w/\Found es.toList 0 fi res:=by
 unfold fM at h
 split at h
 ·rename_i hc
  obtain⟨c1,c2,c3⟩:=hc
  refine⟨fun em=>Em hk em key u c1 c2 hr,?_⟩
  rcases hk with⟨s,rfl,hs⟩|⟨fs,ts,rfl,rl,xE,dB,dJ⟩
  ·rw[vh c1]at h
   have hd:∃d,P.underlying k=some d:=by
    cases s with
    |tB=>exact⟨_,ph hs⟩
    |tS=>exact⟨_,pk hs⟩
    |tI=>obtain⟨q,hq⟩:=pj hs;exact⟨_,hq⟩
   obtain⟨d,hd⟩:=hd
   obtain⟨res,h1,h2⟩:=Bj hs hd hr r.rows es.toList 0 fi (by simpa using ft) (fun j cs hj=>by
    obtain⟨e,kv,vv,q1,q2,_,q4,_⟩:=hM j cs hj
    exact⟨e,kv,by simpa using q1,by simpa[part]using q2,q4⟩) h
   exact⟨res,by simp[Instr.findKey,run_underlying hd,h1],h2⟩
  ·cases key<;>simp[AV.isAgg]at c1
   rename_i cs
   obtain⟨vs,rfl,hL⟩:=rN hr
   obtain⟨res,h1,h2⟩:=Bi rl dB xE hL r.rows es.toList 0 fi (by simpa using ft) (fun j cs hj=>by
    obtain⟨e,kv,vv,q1,q2,_,q4,_⟩:=hM j cs hj
    unfold part at q2
    simp only[if_true]at q2
    split at q2
    ·simp only[Option.some.injEq]at q2;subst q2
     exact⟨e,by simpa using q1,q4⟩
    ·cases q2) h
   exact⟨res,(run_findKey_eq w (by simp[rl]) _ _).trans h1,h2⟩
 ·cases h
section
variable {g:Rows} {hs:Nat} {env:Env} {a:Act} {o:Oper} {id:Id} {v:AV}
theorem zS {m:MK} {x:AV} {u:Value} {p:Id×Row} (S:gn P hs D ι g w) (hr:cE P w D ι x u) (h:ef g m x=some p):∃B,u=.map (some B.b)/\g p.1=some p.2/\ι p.1=some B/\B.k=some (.map m)/\Mx P w D ι B m p.2:=by
 unfold ef at h
 split at h
 ·rename_i i m'
  split at h
  ·rename_i hm
   subst hm
   simp only[Option.map_eq_some_iff]at h
   obtain⟨r,hg,rfl⟩:=h
   obtain⟨B,rfl,hB,hk⟩:=FE hr
   obtain⟨B',dC,R,_⟩:=S.row i r hg
   rw[hB]at dC;injection dC with dC;subst dC
   exact⟨B,rfl,hg,hB,hk,(R.map _ hk).2⟩
  ·cases h
 ·cases h
theorem Pp {t:TypeId} {x k:Operand} {ok:Bool} {m:MK} {z:K} {x' k':O} {mr:Option Row} (S:gn P hs D ι g w) (E:bQ P w D ι env a) (ho:o.op=.lookup t x k ok) (hc:sq P t=some (m,z)) (hx:cO P x=some x') (hk:cO P k=some k')
  (hv:bG (.look m ok z) [cK env x',cK env k'] g id=some (v,mr)):mr=none/\oh P a o w D ι v:=by
 obtain⟨kt,e,i,zv,ht,hi,pV,Sy,hK⟩:=qY hc
 simp only[bG,Option.bind_eq_some_iff,Option.map_eq_some_iff,Prod.mk.injEq]at hv
 obtain⟨p,hp,fi,II,y,hy,rfl,rfl⟩:=hv
 obtain⟨B,hu,hg,hB,uy,es,clock,hb,ft,hlen,hM⟩:=zS S (dm E hx) hp
 obtain⟨Kx,res,hf,hF⟩:=vp (B:=B) hK (dm E hk) ft hM II
 have key:∃val,(match res with|some (_,v)=>(v,true)|none=>(zv,false))=(val,fi.isSome)/\cE P w D ι y val:=by
  rcases hF with⟨rfl,rfl⟩|⟨j,en,rfl,he,rfl⟩
  ·simp only[eo,Option.some.injEq]at hy;subst hy
   refine⟨zv,rfl,?_⟩
   rw[zH Sy];exact wD z
  ·simp only[eo,Option.bind_eq_some_iff,Nat.zero_add]at hy
   obtain⟨cs,dw,hy⟩:=hy
   obtain⟨e',kv,vv,q1,_,q3,_,q5⟩:=hM _ cs dw
   rw[hy]at q3;injection q3 with q3;subst q3
   have:e'=en:=by
    have h1:es.toList[j]? =some e':=by simpa using q1
    rw[he]at h1;injection h1 with h1;exact h1.symm
   subst this
   exact⟨_,rfl,q5⟩
 obtain⟨val,sK,lG⟩:=key
 have fb:(getObj B.b).run P w=.ok (.map es clock) w:=MapKept.run_getObj_map hb
 have hz:(zeroValue e).run P w=.ok zv w:=by simp[zeroValue,typeInfo,hi,pV]
 refine⟨rfl,if ok then .tuple #[val,.bool fi.isSome]else val,?_,?_⟩
 ·simp only[execOp,ho,hu,Instr.lookup,Sem.run_bind,run_underlying ht,Result.andThen_ok,fb,Sem.run_pure,Kx,hf]
  rcases hF with⟨rfl,rfl⟩|⟨j,en,rfl,he,rfl⟩
  ·simp only[Prod.mk.injEq]at sK
   simp[hz,sK.1]
  ·simp only[Prod.mk.injEq]at sK
   simp[sK.1]
 ·cases ok with
  |false=>exact lG
  |true=>
   refine .gP _ _ (fun j=>if j=0 then val else .bool fi.isSome) rfl (fun j hj=>?_) (fun j b hj=>?_)
   ·have:j=0∨j=1:=by simp at hj;omega
    rcases this with rfl|rfl<;>rfl
   ·match j,hj with
    |0,hj=>simp at hj;subst hj;exact lG
    |1,hj=>simp at hj;subst hj;exact .eP _ _ (.bool _)
    |j+2,hj=>simp at hj
theorem Ps {t:TypeId} {x:Operand} {m:MK} {z:K} {x':O} {mr:Option Row} (S:gn P hs D ι g w) (E:bQ P w D ι env a) (ho:o.op=.call {callee:=.builtin .len,args:= #[x],argTypes:= #[t]}) (hc:sq P t=some (m,z)) (hx:cO P x=some x')
  (hv:bG (.len m) [cK env x'] g id=some (v,mr)):mr=none/\oh P a o w D ι v:=by
 obtain⟨kt,e,i,zv,ht,hi,pV,Sy,hK⟩:=qY hc
 simp only[bG,Option.map_eq_some_iff,Prod.mk.injEq]at hv
 obtain⟨p,hp,rfl,rfl⟩:=hv
 obtain⟨B,hu,hg,hB,uy,es,clock,hb,ft,hlen,hM⟩:=zS S (dm E hx) hp
 have fb:(getObj B.b).run P w=.ok (.map es clock) w:=MapKept.run_getObj_map hb
 refine⟨rfl,.int .i64 (es.size:Int),?_,by rw[ft];exact .eP _ _ (.int _ _)⟩
 simp only[execOp,ho,resolve,Sem.run_bind,Sem.run_pure,Result.andThen_ok,invoke,builtin,Array.map,hu]
 simp[Builtin.len_,run_underlying ht,goInt,hu,fb]
def MkM (P:Program) (a:Act) (o:Oper) (w:World) (id:Id) (v:AV) (r:Row):Prop:=
 ∃m,(execOp a.eval o).run P w=.ok (.value (.map (some w.heap.size))) (w.alloc (.map #[] 0))/\v=.map id m/\r=⟨true,m.nS,[]⟩
theorem Ro {t:TypeId} {m:MK} (ho:o.op=.makeMap t none):MkM P a o w id (.map id m) ⟨true,m.nS,[]⟩:=by
 refine⟨m,?_,rfl,rfl⟩
 simp[execOp,ho,Instr.makeMap,go_sem]
def MkC (P:Program) (a:Act) (o:Oper) (w:World) (id:Id) (v:AV) (r:Row):Prop:=
 ∃n,(execOp a.eval o).run P w=.ok (.value (.chan (some w.heap.size))) (w.alloc (.chan n #[] false 0 0 false))/\v=.re id/\r=⟨true,qj+n,[]⟩
theorem OI {t e:TypeId} {x:Operand} {x':O} {dir:ChanDir} {i:TypeInfo} {n:Nat} (E:bQ P w D ι env a) (ho:o.op=.makeChan t x) (ht:P.underlying t=some (.chan dir e)) (hi:P.info? e=some i) (hb:i.bytes<=32768) (hx:cO P x=some x') (hn:dc (cK env x')=some n):MkC P a o w id (.re id) ⟨true,qj+n,[]⟩:=by
 refine⟨n,?_,rfl,rfl⟩
 have hr:=dm E hx
 unfold dc at hn
 split at hn
 ·rename_i k m hm
  rw[hm]at hr
  split at hn
  ·rename_i hc
   simp only[Option.some.injEq]at hn
   subst hn
   have MS:((m.toNat:Nat):Int)=m:=by omega
   have dM:(i.bytes:Int)*(m.toNat:Nat)<=281474976710544:=by
    have h1:i.bytes*m.toNat<=32768*1048576:=Nat.mul_le_mul hb (by omega)
    have h2:((i.bytes*m.toNat:Nat):Int)<=281474976710544:=by omega
    rwa [Int.natCast_mul]at h2
   have h:=Conc.run_makeChan (P:=P) (w:=w) ht hi k m.toNat (by omega) dM
   rw[MS]at h
   simp only[execOp,ho,dr hr,Sem.run_bind,h,Result.andThen_ok,Sem.run_pure]
  ·cases hn
 ·cases hn
theorem zf {x:AV} {u:Value} {i:Id} {r:Row} (S:gn P hs D ι g w) (hr:cE P w D ι x u) (hx:x=.re i) (hg:g i=some r):∃B c,u=.chan (some B.b)/\ι i=some B/\B.k=some (.chan c)/\r.sz=qj+c/\HM P w D ι B c r:=by
 subst hx
 obtain⟨B,c,rfl,hB,hk⟩:=L7 hr
 obtain⟨B',dC,R,_⟩:=S.row i r hg
 rw[hB]at dC;injection dC with dC;subst dC
 exact⟨B,c,rfl,hB,hk,R.chan c hk⟩
theorem Pk {t e:TypeId} {dir:ChanDir} {x:Operand} {x':O} (S:gn P hs D ι g w) (E:bQ P w D ι env a) (ho:o.op=.call {callee:=.builtin .len,args:= #[x],argTypes:= #[t]}) (ht:P.underlying t=some (.chan dir e)) (hx:cO P x=some x') (hv:da g (cK env x')=some v):oh P a o w D ι v:=by
 have hr:=dm E hx
 unfold da at hv
 split at hv
 ·rename_i i he
  simp only[Option.map_eq_some_iff]at hv
  obtain⟨r,hg,rfl⟩:=hv
  obtain⟨B,c,hu,hB,hk,ft,buf,s,q,hb,Kw,_⟩:=zf S hr he hg
  have fb:(getObj B.b).run P w=.ok (.chan c buf false s q false) w:=by simp[getObj,Sem.run,hb]
  refine⟨.int .i64 (buf.size:Int),?_,by rw[Kw];exact .eP _ _ (.int _ _)⟩
  simp only[execOp,ho,resolve,Sem.run_bind,Sem.run_pure,Result.andThen_ok,invoke,builtin,Array.map,hu]
  simp[Builtin.len_,run_underlying ht,goInt,hu,fb]
 ·cases hv
end
end Go.Proofs.YtgoelphibofcmaaGreat.V

namespace Go.Proofs.YtgoelphibofcmaaGreat.V
open Go.RowKit
variable {P:Program} {w w':World} {D D':Nat->Prop} {ι ι':Names}
def KL (P:Program) (a:Act) (o:Oper) (w:World) (D:Nat->Prop) (ι:Names) (id:Id) (v:AV):Option Row->Prop
 |none=>oh P a o w D ι v
 |some r=>Mk P a o w D ι id v r∨MkM P a o w id v r∨MkC P a o w id v r
section
variable {g:Rows} {hs:Nat} {env:Env} {a:Act} {o:Oper} {id:Id} {v:AV}
theorem lu {x:Option AV} {mr:Option Row} (h:x.map (·,(none:Option Row))=some (v,mr)) (H:x=some v->oh P a o w D ι v):KL P a o w D ι id v mr:=by
 cases x with
 |none=>simp at h
 |some y=>simp at h;obtain⟨rfl,rfl⟩:=h;exact H rfl
theorem Rv {neg:Bool} {t yt:TypeId} {x y:Operand} {vo:gu} {mr:Option Row} (ho:o.op=.binOp (if neg then .neq else .eql) t x y yt) (hc:so P neg t x y=some vo) (hq:eV vo (cK env) g id=some (v,mr)) (E:bQ P w D ι env a):KL P a o w D ι id v mr:=by
 unfold so at hc
 split at hc
 ·split at hc
  ·rename_i e ht
   simp only[Option.map_eq_some_iff]at hc
   obtain⟨x',hx,rfl⟩:=hc
   simp only[eV,ew,Bool.false_eq_true,if_false,Option.map_eq_some_iff,Prod.mk.injEq]at hq
   obtain⟨b,hb,rfl,rfl⟩:=hq
   exact Pf E ho ht hx hb
  ·simp at hc
 ·split at hc
  ·rename_i ht
   simp only[Option.map_eq_some_iff]at hc
   obtain⟨x',hx,rfl⟩:=hc
   simp only[eV,ew,if_true,Option.map_eq_some_iff,Prod.mk.injEq]at hq
   obtain⟨b,hb,rfl,rfl⟩:=hq
   exact Pe E ho ht hx hb
  ·simp at hc
 ·split at hc
  ·rename_i ht
   simp only[Option.map_eq_some_iff]at hc
   obtain⟨x',hx,rfl⟩:=hc
   simp only[eV,Option.map_eq_some_iff,Prod.mk.injEq]at hq
   obtain⟨b,hb,rfl,rfl⟩:=hq
   exact RQ E ho ht hx hb
  ·simp at hc
 ·split at hc
  ·rename_i s hs
   simp only[Option.bind_eq_bind,Option.bind_eq_some_iff,Option.pure_def,Option.some.injEq]at hc
   obtain⟨x',hx,y',hy,rfl⟩:=hc
   simp only[eV,Option.map_eq_some_iff,Prod.mk.injEq]at hq
   obtain⟨b,hb,rfl,rfl⟩:=hq
   have BF:fu P t=some s:=by
    unfold Te at hs
    split at hs
    ·rename_i s' h;simp at hs;subst hs;exact h
    ·split at hs
     ·split at hs
      ·simp at hs
      ·simp at hs
     ·simp at hs
   exact RS E ho BF hx hy hb
  ·rename_i ts hs
   simp only[Option.bind_eq_bind,Option.bind_eq_some_iff,Option.pure_def,Option.some.injEq]at hc
   obtain⟨x',hx,y',hy,rfl⟩:=hc
   simp only[eV]at hq
   split at hq
   ·rename_i xs ys h1 h2
    simp only[Option.map_eq_some_iff,Prod.mk.injEq]at hq
    obtain⟨b,hb,rfl,rfl⟩:=hq
    unfold Te at hs
    split at hs
    ·simp at hs
    ·split at hs
     ·rename_i fs rl
      split at hs
      ·rename_i hg
       simp only[Option.map_eq_some_iff,S3.ag.injEq]at hs
       obtain⟨Nf,xE,rfl⟩:=hs
       simp only[Bool.and_eq_true,Bool.not_eq_true']at hg
       exact RP E ho rl hg.1 hg.2 xE hx hy h1 h2 hb
      ·simp at hs
     ·simp at hs
   ·simp at hq
  ·simp at hc
theorem OR {c:Call} {vo:gu} {mr:Option Row} (ho:o.op=.call c) (hc:nB P c=some vo) (hq:eV vo (cK env) g id=some (v,mr)) (S:gn P hs D ι g w) (E:bQ P w D ι env a):KL P a o w D ι id v mr:=by
 unfold nB at hc
 split at hc
 ·rename_i kn
  split at hc
  ·rename_i x t h1 h2
   have hce:c={callee:=.builtin .len,args:= #[x],argTypes:= #[t]}:=by
    obtain⟨a,b,c⟩:=c
    simp only at h1 h2 kn
    subst kn
    congr
    ·exact Array.ext' h1
    ·exact Array.ext' h2
   rw[hce]at ho
   split at hc
   ·rename_i e ht
    simp only[Option.map_eq_some_iff]at hc
    obtain⟨x',hx,rfl⟩:=hc
    simp only[eV,Option.map_eq_some_iff,Prod.mk.injEq]at hq
    obtain⟨n,hn,rfl,rfl⟩:=hq
    exact RT E ho ht hx hn
   ·rename_i ht
    simp only[Option.map_eq_some_iff]at hc
    obtain⟨x',hx,rfl⟩:=hc
    exact lu hq fun h=>Pm E ho ht hx h
   ·split at hc
    ·rename_i m z x' hm hx
     simp only[Option.some.injEq]at hc
     subst hc
     obtain⟨rfl,h⟩:=Ps (id:=id) S E ho hm hx hq
     exact h
    ·cases hc
   ·rename_i ht
    simp only[Option.map_eq_some_iff]at hc
    obtain⟨x',hx,rfl⟩:=hc
    exact lu hq fun h=>Pk S E ho ht hx h
   ·simp at hc
  ·simp at hc
 ·split at hc
  ·split at hc
   ·split at hc
    ·split at hc
     ·simp only[Option.bind_eq_bind,Option.bind_eq_some_iff,Option.pure_def,Option.some.injEq]at hc
      obtain⟨x',hx,y',hy,rfl⟩:=hc
      simp[eV]at hq
     ·simp at hc
    ·simp at hc
   ·simp at hc
  ·simp at hc
 ·split at hc
  ·split at hc
   ·split at hc
    ·simp only[Option.map_eq_some_iff]at hc
     obtain⟨x',hx,rfl⟩:=hc
     simp[eV]at hq
    ·simp at hc
   ·simp at hc
  ·simp at hc
 ·split at hc
  ·simp only[Option.map_eq_some_iff]at hc
   obtain⟨x',hx,rfl⟩:=hc
   simp[eV]at hq
  ·simp at hc
 ·simp only[Option.map_eq_some_iff]at hc
  obtain⟨x',hx,rfl⟩:=hc
  simp[eV]at hq
 ·split at hc
  ·split at hc
   ·simp only[Option.some.injEq]at hc
    subst hc
    simp[eV]at hq
   ·cases hc
  ·cases hc
 ·split at hc
  ·split at hc
   ·split at hc
    ·simp only[Option.bind_eq_bind,Option.bind_eq_some_iff,Option.pure_def,Option.some.injEq]at hc
     obtain⟨x',hx,y',hy,rfl⟩:=hc
     simp[eV]at hq
    ·simp at hc
   ·simp at hc
  ·simp at hc
 ·simp at hc
theorem yP {vo:gu} {mr:Option Row} (hc:qM P o.op=some vo) (hq:eV vo (cK env) g id=some (v,mr)) (S:gn P hs D ι g w) (E:bQ P w D ι env a):KL P a o w D ι id v mr:=by
 unfold qM at hc
 split at hc
 ·rename_i ho
  simp only[Option.map_eq_some_iff]at hc
  obtain⟨x',hx,rfl⟩:=hc
  simp[eV]at hq;obtain⟨rfl,rfl⟩:=hq
  exact Nh E (.inl ho) hx
 ·rename_i ho
  simp only[Option.map_eq_some_iff]at hc
  obtain⟨x',hx,rfl⟩:=hc
  simp[eV]at hq;obtain⟨rfl,rfl⟩:=hq
  exact Nh E (.inr ho) hx
 ·rename_i ho
  simp only[Option.bind_eq_bind,Option.bind_eq_some_iff,Option.pure_def,Option.some.injEq]at hc
  obtain⟨c',h1,x',h2,y',h3,rfl⟩:=hc
  exact lu hq fun h=>Pt E ho h1 h2 h3 h
 ·rename_i ho
  simp only[Option.map_eq_some_iff]at hc
  obtain⟨z,hz,rfl⟩:=hc
  simp only[eV,Option.some.injEq,Prod.mk.injEq]at hq
  obtain⟨rfl,rfl⟩:=hq
  exact .inl (Rp ho hz)
 ·rename_i ho
  simp only[Option.map_eq_some_iff]at hc
  obtain⟨x',hx,rfl⟩:=hc
  simp only[eV,Option.map_eq_some_iff,Prod.mk.injEq]at hq
  obtain⟨cs,dw,rfl,rfl⟩:=hq
  exact .inl (Rn E ho hx dw)
 ·rename_i ho
  simp only[Option.bind_eq_bind,Option.bind_eq_some_iff,Option.pure_def,Option.some.injEq]at hc
  obtain⟨ag,h1,n,h2,x',h3,rfl⟩:=hc
  exact lu hq fun h=>Po S E ho h1 h2 h3 h
 ·rename_i ho
  simp only[Option.bind_eq_bind,Option.bind_eq_some_iff,Option.pure_def,Option.some.injEq]at hc
  obtain⟨n,h2,x',h3,y',h4,rfl⟩:=hc
  simp[eV]at hq
 ·rename_i ho
  simp only[Option.map_eq_some_iff]at hc
  obtain⟨x',hx,rfl⟩:=hc
  exact lu hq fun h=>RN E ho hx h
 ·rename_i op t x y yt ho
  unfold uY at hc
  split at hc
  ·exact Rv (neg:=false) ho hc hq E
  ·exact Rv (neg:=true) ho hc hq E
  ·simp only[Option.bind_eq_bind,Option.bind_eq_some_iff,Option.pure_def,Option.some.injEq]at hc
   obtain⟨x',h3,y',h4,rfl⟩:=hc
   exact lu hq fun h=>RW (left:=true) E ho h3 h4 h
  ·simp only[Option.bind_eq_bind,Option.bind_eq_some_iff,Option.pure_def,Option.some.injEq]at hc
   obtain⟨x',h3,y',h4,rfl⟩:=hc
   exact lu hq fun h=>RW (left:=false) E ho h3 h4 h
  ·rename_i n1 n2 n3 n4
   split at hc
   ·simp only[Option.bind_eq_bind,Option.bind_eq_some_iff,Option.pure_def,Option.some.injEq]at hc
    obtain⟨x',h3,y',h4,rfl⟩:=hc
    exact lu hq fun h=>RM E ho n1 n2 h3 h4 h
   ·simp only[Option.bind_eq_bind,Option.bind_eq_some_iff,Option.pure_def,Option.some.injEq]at hc
    obtain⟨x',h3,y',h4,rfl⟩:=hc
    exact lu hq fun h=>Pc E ho n1 n2 h3 h4 h
   ·simp at hc
 ·rename_i ho
  simp only[Option.map_eq_some_iff]at hc
  obtain⟨x',hx,rfl⟩:=hc
  exact lu hq fun h=>RV E ho hx h
 ·rename_i ho
  simp only[Option.map_eq_some_iff]at hc
  obtain⟨x',hx,rfl⟩:=hc
  exact lu hq fun h=>RU E ho hx h
 ·rename_i ho
  split at hc
  ·rename_i q k h1 h2
   simp only[Option.map_eq_some_iff]at hc
   obtain⟨x',hx,rfl⟩:=hc
   exact lu hq fun h=>Pd E ho h1 h2 hx h
  ·rename_i h1 h2
   simp only[Option.map_eq_some_iff]at hc
   obtain⟨x',hx,rfl⟩:=hc
   exact lu hq fun h=>by
    have hr:=dm E hx
    unfold cj at h
    split at h
    ·rename_i s hb
     simp at h;subst h
     rw[hb]at hr
     exact⟨.string s,by simp only[execOp,ho,fC hr,convert,Sem.run_bind,run_underlying h1,run_underlying h2,Result.andThen_ok,Sem.run_pure],.eP _ _ (.str _)⟩
    ·simp at h
  ·simp at hc
 ·rename_i ho
  split at hc
  ·rename_i e ht
   simp only[Option.bind_eq_bind,Option.bind_eq_some_iff,Option.pure_def,Option.some.injEq]at hc
   obtain⟨n,h1,x',h2,lo,h3,hi,h4,rfl⟩:=hc
   exact lu hq fun h=>Mt S E ho ht h1 h2 h3 h4 h
  ·rename_i ht
   simp only[Option.bind_eq_bind,Option.bind_eq_some_iff,Option.pure_def,Option.some.injEq]at hc
   obtain⟨x',h2,lo,h3,hi,h4,rfl⟩:=hc
   exact lu hq fun h=>Ko E ho ht h2 h3 h4 h
  ·simp at hc
 ·rename_i ho
  split at hc
  ·rename_i fs rl
   split at hc
   ·rename_i f hf
    split at hc
    ·rename_i m hm
     simp only[Option.map_eq_some_iff]at hc
     obtain⟨x',hx,rfl⟩:=hc
     exact lu hq fun h=>Mq E ho rl hf hm hx h
    ·simp at hc
   ·simp at hc
  ·simp at hc
 ·rename_i ho
  split at hc
  ·rename_i fs rl
   split at hc
   ·rename_i f hf
    simp only[Option.bind_eq_bind,Option.bind_eq_some_iff,Option.pure_def,Option.some.injEq]at hc
    obtain⟨ag,h1,n,h2,x',h3,rfl⟩:=hc
    exact lu hq fun h=>Mr E ho rl hf h1 h2 h3 h
   ·simp at hc
  ·simp at hc
 ·rename_i ho
  split at hc
  ·rename_i e ht
   split at hc
   ·rename_i m hm
    simp only[Option.bind_eq_bind,Option.bind_eq_some_iff,Option.pure_def,Option.some.injEq]at hc
    obtain⟨x',h1,i',h2,rfl⟩:=hc
    exact lu hq fun h=>Ms S E ho ht hm h1 h2 h
   ·simp at hc
  ·rename_i len e ht
   split at hc
   ·rename_i m hm
    simp only[Option.bind_eq_bind,Option.bind_eq_some_iff,Option.pure_def,Option.some.injEq]at hc
    obtain⟨x',h1,i',h2,rfl⟩:=hc
    exact lu hq fun h=>Pg E ho ht hm h1 h2 h
   ·simp at hc
  ·simp at hc
 ·rename_i ho
  split at hc
  ·rename_i ht
   simp only[Option.bind_eq_bind,Option.bind_eq_some_iff,Option.pure_def,Option.some.injEq]at hc
   obtain⟨x',h1,i',h2,rfl⟩:=hc
   exact lu hq fun h=>Pj E ho ht h1 h2 h
  ·rename_i len e ht
   simp only[Option.bind_eq_bind,Option.bind_eq_some_iff,Option.pure_def,Option.some.injEq]at hc
   obtain⟨ag,h0,n,h1,x',h2,i',h3,rfl⟩:=hc
   exact lu hq fun h=>Ph E ho ht h0 h1 h2 h3 h
  ·simp at hc
 ·rename_i ho
  simp only[Option.map_eq_some_iff]at hc
  obtain⟨x',hx,rfl⟩:=hc
  exact lu hq fun h=>Hu E ho hx h
 ·rename_i ho
  split at hc
  ·rename_i fs rl
   split at hc
   ·rename_i z l hz hl
    split at hc
    ·rename_i dJ
     simp only[Option.map_eq_some_iff]at hc
     obtain⟨q,Lt,rfl⟩:=hc
     simp only[eV,Option.map_eq_some_iff,Prod.mk.injEq]at hq
     obtain⟨cs,dw,rfl,rfl⟩:=hq
     exact Mp E ho rl hz hl (fun f hf=>by
      rw[Array.all_eq_true_iff_forall_mem]at dJ
      exact dJ f (Array.mem_toList_iff.1 hf)) Lt dw
    ·simp at hc
   ·simp at hc
  ·rename_i len e ht
   split at hc
   ·rename_i z l n hz hl hn
    simp only[Option.some.injEq]at hc
    subst hc
    simp only[eV,Option.map_eq_some_iff,Prod.mk.injEq]at hq
    obtain⟨cs,dw,rfl,rfl⟩:=hq
    exact Kn E ho ht hz hl hn dw
   ·simp at hc
  ·simp at hc
 ·rename_i ho
  split at hc
  ·rename_i e ht
   split at hc
   ·rename_i sz z l h1 h2 h3
    split at hc
    ·rename_i hh
     simp only[Option.some.injEq]at hc
     subst hc
     simp only[eV,Option.map_eq_some_iff,Prod.mk.injEq]at hq
     obtain⟨rs,yp,rfl,rfl⟩:=hq
     exact .inl (Jn E ho ht h1 h2 h3 hh.1 hh.2 (by rw[List.map_map]at yp;exact yp))
    ·simp at hc
   ·simp at hc
  ·simp at hc
 ·rename_i ho
  split at hc
  ·rename_i hh
   simp only[Option.map_eq_some_iff]at hc
   obtain⟨l,hl,rfl⟩:=hc
   simp[eV]at hq;obtain⟨rfl,rfl⟩:=hq
   exact Pq E ho hh.1 hh.2 hl
  ·split at hc
   ·rename_i hh
    simp only[Option.map_eq_some_iff]at hc
    obtain⟨l,hl,rfl⟩:=hc
    simp[eV]at hq;obtain⟨rfl,rfl⟩:=hq
    exact Pr E ho hh.1 hh.2 hl
   ·simp at hc
 ·rename_i ho
  split at hc
  ·rename_i e ht
   split at hc
   ·rename_i m z i h1 h2 h3
    split at hc
    ·rename_i hb
     simp only[Option.bind_eq_bind,Option.bind_eq_some_iff,Option.pure_def,Option.some.injEq]at hc
     obtain⟨l',h4,c',h5,rfl⟩:=hc
     simp only[eV,Option.map_eq_some_iff,Prod.mk.injEq]at hq
     obtain⟨⟨n,r⟩,hr,rfl,rfl⟩:=hq
     exact .inl (GJ E ho ht h1 h2 h3 hb h4 h5 hr)
    ·simp at hc
   ·simp at hc
  ·simp at hc
 ·rename_i ho
  exact OR ho hc hq S E
 ·rename_i ho
  split at hc
  ·rename_i dir e ht
   split at hc
   ·rename_i i hi
    split at hc
    ·rename_i hb
     simp only[Option.map_eq_some_iff]at hc
     obtain⟨x',hx,rfl⟩:=hc
     simp only[eV,Option.map_eq_some_iff,Prod.mk.injEq]at hq
     obtain⟨n,hn,rfl,rfl⟩:=hq
     exact .inr (.inr (OI E ho ht hi hb hx hn))
    ·cases hc
   ·cases hc
  ·cases hc
 ·simp only[Option.bind_eq_bind,Option.bind_eq_some_iff,Option.pure_def,Option.some.injEq]at hc
  obtain⟨x',_,y',_,rfl⟩:=hc
  simp[eV]at hq
 ·split at hc
  ·split at hc
   ·simp only[Option.map_eq_some_iff]at hc
    obtain⟨x',_,rfl⟩:=hc
    simp[eV]at hq
   ·cases hc
  ·cases hc
 ·rename_i ho
  split at hc
  ·rename_i m z hm
   simp only[Option.some.injEq]at hc
   subst hc
   simp only[eV,List.map_nil,bG,Option.some.injEq,Prod.mk.injEq]at hq
   obtain⟨rfl,rfl⟩:=hq
   exact .inr (.inl (Ro ho))
  ·cases hc
 ·rename_i ho
  split at hc
  ·rename_i m z x' k' hm hx hk
   simp only[Option.some.injEq]at hc
   subst hc
   obtain⟨rfl,h⟩:=Pp (id:=id) S E ho hm hx hk hq
   exact h
  ·cases hc
 ·split at hc
  ·simp only[Option.some.injEq]at hc
   subst hc
   simp[eV]at hq
  ·cases hc
 ·split at hc
  ·simp only[Option.some.injEq]at hc
   subst hc
   simp[eV]at hq
  ·cases hc
 ·simp only[Option.some.injEq]at hc
  subst hc
  simp[eV]at hq
 ·simp only[Option.some.injEq]at hc
  subst hc
  simp[eV]at hq
 ·simp at hc
end
end Go.Proofs.YtgoelphibofcmaaGreat.V

namespace Go.Proofs.YtgoelphibofcmaaGreat.V
open Go.RowKit
variable {P:Program} {w w':World} {D D':Nat->Prop} {ι ι':Names}
def kC (ι:Names) (id:Id) (B:sa):Names:=fun i=>if i=id then some B else ι i
theorem dR (ι:Names) (id:Id) (B:sa):kC ι id B id=some B:=if_pos rfl
theorem fa {ι:Names} {id:Id} {B:sa} (h:ι id=none):∀i B',ι i=some B'->kC ι id B i=some B':=fun i B' hi=>by
 have:i≠id:=by rintro rfl;rw[h]at hi;cases hi
 rw[kC,if_neg this];exact hi
theorem gi {ι:Names} {id i:Id} {B:sa} (h:i≠id):kC ι id B i=ι i:=if_neg h
section
variable {g:Rows} {hs:Nat} {env:Env} {a:Act} {o:Oper} {id:Id} {v:AV}
theorem ly.frame {B:sa} {r:Row} (h:ly P w D ι B r) (hb:w'.heap[B.b]? =w.heap[B.b]?) (hr:∀a v,cE P w D ι a v->cE P w' D' ι' a v):ly P w' D' ι' B r:=
 ⟨h.sz,by obtain⟨c,T,h1,h2⟩:=h.xn;exact⟨c,T,hb.trans h1,h2⟩,h.fits,h.len,h.flat,fun i j cs a hi hj=>by
  obtain⟨v,h1,h2⟩:=h.at_ i j cs a hi hj
  exact⟨v,(World.cell?_of_block (a:=⟨B.b,i*r.sz+j,none⟩) hb).trans h1,hr _ _ h2⟩⟩
theorem gI.frame {B:sa} {r:Row} (h:gI P w D ι B r) (hb:w'.heap[B.b]? =w.heap[B.b]?) (hr:∀a v,cE P w D ι a v->cE P w' D' ι' a v):gI P w' D' ι' B r:=
 ⟨h.sz,h.flat,fun hk=>(h.row hk).frame hb hr,fun m hm=>by
  obtain⟨h1,es,c,h2,h3,h5,h4⟩:=h.map m hm
  refine⟨h1,es,c,hb.trans h2,h3,h5,fun i cs hi=>?_⟩
  obtain⟨e,kv,vv,q1,q2,q3,q4,q5⟩:=h4 i cs hi
  exact⟨e,kv,vv,q1,q2,q3,hr _ _ q4,hr _ _ q5⟩,fun c hc=>by
  obtain⟨h1,buf,s,q,h2,h3,h4⟩:=h.chan c hc
  refine⟨h1,buf,s,q,hb.trans h2,h3,fun i cs hi=>?_⟩
  obtain⟨a,u,q1,q2,q3⟩:=h4 i cs hi
  exact⟨a,u,q1,q2,hr _ _ q3⟩⟩
theorem gn.kill (S:gn P hs D ι g w) (i:Id):gn P hs D ι (cr g i) w:=by
 refine⟨S.lo,S.dead,fun id r h=>?_,fun id jU r r' B B' h h' hw hB dC hb=>?_⟩
 ·unfold cr at h;split at h
  ·cases h
  ·exact S.row id r h
 ·unfold cr at h h'
  split at h
  ·cases h
  ·split at h'
   ·cases h'
   ·exact S.inj id jU r r' B B' h h' hw hB dC hb
theorem gn.sub {g':Rows} (S:gn P hs D ι g w) (h:∀id r,g' id=some r->g id=some r):gn P hs D ι g' w:=
 ⟨S.lo,S.dead,fun id r hr=>S.row id r (h id r hr),fun id jU r r' B B' h1 h2=>S.inj id jU r r' B B' (h _ _ h1) (h _ _ h2)⟩
theorem Ay {hid:List Nat} {n:Nat} {g:Rows}:∀id r,gr hid n g id=some r->g id=some r:=fun id r h=>by
 cases hid with
 |nil=>exact h
 |cons a l=>
  have e:gr (a::l) n g id=if (a::l).contains id.site=true/\id.bq=n then none else g id:=rfl
  rw[e]at h
  by_cases hc:(a::l).contains id.site=true/\id.bq=n
  ·rw[if_pos hc]at h;cases h
  ·rw[if_neg hc]at h;exact h
theorem gn.stay (S:gn P hs D ι g w) (hb:∀b,b<w.heap.size->w'.heap[b]? =w.heap[b]?) (hz:w.heap.size<=w'.heap.size) (hD:∀b,D b->D' b) (hD':∀b,D' b->b<w'.heap.size) (ke:∀b,D' b->D b∨w.heap.size<=b) (hι:∀id B,ι id=some B->ι' id=some B):gn P hs D' ι' g w':=by
 have hr:∀a v,cE P w D ι a v->cE P w' D' ι' a v:=fun a v h=>h.frame (fun b hd=>hb b (S.dead b hd)) hD hι
 have lt:∀{id r B},g id=some r->ι id=some B->B.b<w.heap.size:=fun {id r B} h hB=>by
  obtain⟨B',dC,R,_⟩:=S.row id r h
  rw[hB]at dC;injection dC with dC;subst dC
  exact R.lt
 refine⟨Nat.le_trans S.lo hz,hD',fun id r h=>?_,fun id jU r r' B B' h h' hw hB dC he=>?_⟩
 ·obtain⟨B,hB,R,h1,h2⟩:=S.row id r h
  exact⟨B,hι _ _ hB,R.frame (hb _ (lt h hB)) hr,h1,fun hw hd=>by
   rcases ke _ hd with hd|hd
   ·exact h2 hw hd
   ·have:=lt h hB;omega⟩
 ·obtain⟨C,hC,_⟩:=S.row id r h
  obtain⟨C',ub,_⟩:=S.row jU r' h'
  have e1:=hι _ _ hC
  have e2:=hι _ _ ub
  rw[hB]at e1;injection e1 with e1;subst e1
  rw[dC]at e2;injection e2 with e2;subst e2
  exact S.inj id jU r r' _ _ h h' hw hC ub he
theorem Step.stay (S:gn P hs D ι g w) (hb:∀b,b<w.heap.size->w'.heap[b]? =w.heap[b]?) (hz:w.heap.size<=w'.heap.size) (e1:w'.os=w.os) (e2:w'.tape=w.tape) (e3:w'.output=w.output) (hD:∀b,D b->D' b) (ke:∀b,D' b->D b∨w.heap.size<=b) (hι:∀id B,ι id=some B->ι' id=some B):Step hs D ι w D' ι' w':=
 ⟨⟨e1,e2,e3,hz,fun k hk=>hb k (Nat.lt_of_lt_of_le hk S.lo)⟩,fun b hd=>hb b (S.dead b hd),hD,hι,fun b h=>(ke b h).imp_right (Nat.le_trans S.lo)⟩
theorem gn.alloc (S:gn P hs D ι g w) {cells:Array Value} {T:TypeId} {r:Row} (hh:w'.heap=w.heap.push (.cells cells T (0,0))) (hn:ι id=none) (hw:r.w=true) (h1:r.rows.length*r.sz<=cells.size) (h2:∀cs∈r.rows,cs.length=r.sz) (h3:∀cs∈r.rows,∀a∈cs,a.cell=true)
  (h4:∀i j cs a,r.rows[i]? =some cs->cs[j]? =some a->∃x,cells[i*r.sz+j]? =some x/\cE P w D ι a x):gn P hs D (kC ι id ⟨w.heap.size,r.sz,cells.size,none⟩) (bJ g id r) w':=by
 have hb:∀b,b<w.heap.size->w'.heap[b]? =w.heap[b]? :=fun b dM=>by rw[hh,Array.getElem?_push,if_neg (by omega)]
 have hz:w.heap.size<=w'.heap.size:=by rw[hh];simp
 have S':=S.stay (D':=D) (ι':=kC ι id ⟨w.heap.size,r.sz,cells.size,none⟩) hb hz (fun _ h=>h) (fun b hd=>Nat.lt_of_lt_of_le (S.dead b hd) hz) (fun _ h=>.inl h) (fa hn)
 have hr:∀a v,cE P w D ι a v->cE P w' D (kC ι id ⟨w.heap.size,r.sz,cells.size,none⟩) a v:=fun a v h=>h.frame (fun b hd=>hb b (S.dead b hd)) (fun _ h=>h) (fa hn)
 have ke:w'.heap[w.heap.size]? =some (.cells cells T (0,0)):=by rw[hh];simp
 have gone:g id=none:=by
  cases hg:g id with
  |none=>rfl
  |some q=>
   obtain⟨B,hB,_⟩:=S.row id q hg
   rw[hn]at hB;cases hB
 have lt:∀{i q B},g i=some q->ι i=some B->B.b<w.heap.size:=fun {i q B} h hB=>by
  obtain⟨B',dC,R,_⟩:=S.row i q h
  rw[hB]at dC;injection dC with dC;subst dC
  exact R.lt
 refine⟨S'.lo,S'.dead,fun i q h=>?_,fun i i' q q' B B' h h' IW hB dC he=>?_⟩
 ·unfold bJ at h
  split at h
  ·rename_i e
   subst e
   injection h with h;subst h
   refine⟨_,dR _ _ _,ly.obj ⟨rfl,⟨cells,T,ke,rfl⟩,h1,h2,h3,fun k j cs a hk hj=>?_⟩ rfl,fun _=>S.lo,fun _ hd=>?_⟩
   ·obtain⟨x,hx,hrx⟩:=h4 k j cs a hk hj
    exact⟨x,by simp[World.cell?,ke,hx],hr _ _ hrx⟩
   ·have:=S.dead _ hd;simp at this
  ·exact S'.row i q h
 ·unfold bJ at h h'
  split at h
  ·rename_i e
   split at h'
   ·rename_i e';exact e.trans e'.symm
   ·exfalso
    rename_i e'
    subst e
    rw[dR]at hB;injection hB with hB;subst hB
    rw[gi e']at dC
    have:=lt h' dC
    simp at he;omega
  ·rename_i e
   split at h'
   ·exfalso
    rename_i e'
    subst e'
    rw[dR]at dC;injection dC with dC;subst dC
    rw[gi e]at hB
    have:=lt h hB
    simp at he;omega
   ·exact S'.inj i i' q q' B B' h h' IW hB dC he
theorem gn.put (S:gn P hs D ι g w) {r r':Row} {B:sa} {cur cur':Array Value} {T:TypeId} (hid:g id=some r) (hw:r.w=true) (hB:ι id=some B) (hblk:w.heap[B.b]? =some (.cells cur T (0,0))) (ft:cur'.size=cur.size)
  (h0:r'.w=true) (h1:r'.sz=r.sz) (h2:r'.rows.length*r'.sz<=B.C) (h3:∀cs∈r'.rows,cs.length=r'.sz) (h4:∀cs∈r'.rows,∀a∈cs,a.cell=true)
  (h5:∀i j cs a,r'.rows[i]? =some cs->cs[j]? =some a->∃v,cur'[i*r.sz+j]? =some v/\cE P w D ι a v):gn P hs D ι (bJ g id r') (w.setRow B.b cur')/\Step hs D ι w D ι (w.setRow B.b cur'):=by
 obtain⟨B0,Bs,RO,jM,mc⟩:=S.row id r hid
 rw[hB]at Bs;injection Bs with Bs;subst Bs
 have xc:=RO.LS hblk
 have R:=RO.row xc
 have hd:∀b,D b->(w.setRow B.b cur').heap[b]? =w.heap[b]? :=fun b hb=>setRow_other w B.b b cur' (by rintro rfl;exact mc hw hb)
 have hr:∀a v,cE P w D ι a v->cE P (w.setRow B.b cur') D ι a v:=fun a v h=>h.frame hd (fun _ h=>h) (fun _ _ h=>h)
 have hC:cur.size=B.C:=by
  obtain⟨c,T',h1,h2⟩:=R.xn
  rw[hblk]at h1;injection h1 with h1;injection h1 with h1 NQ;subst h1;exact h2
 refine⟨⟨by simpa using S.lo,fun b hb=>by simpa using S.dead b hb,fun i q h=>?_,fun i i' q q' C C' h h' IW hC ub he=>?_⟩,⟨⟨by simp,by simp,by simp,by simp,fun k hk=>setRow_other w B.b k cur' (by have:=jM hw;omega)⟩,hd,fun _ h=>h,fun _ _ h=>h,fun _ h=>.inl h⟩⟩
 ·unfold bJ at h
  split at h
  ·rename_i e
   subst e
   injection h with h;subst h
   refine⟨B,hB,ly.obj ⟨by rw[h1];exact R.sz,⟨cur',T,setRow_heap w B.b cur cur' T _ hblk,by rw[ft];exact hC⟩,h2,h3,h4,fun k j cs a hk hj=>?_⟩ xc,fun _=>jM hw,fun _=>mc hw⟩
   obtain⟨v,hv,lG⟩:=h5 k j cs a hk hj
   exact⟨v,by rw[cell_setRow_same w B.b _ cur cur' T _ hblk,h1];exact hv,hr _ _ lG⟩
  ·rename_i e
   obtain⟨C,hC,RC,k1,k2⟩:=S.row i q h
   refine⟨C,hC,RC.frame (setRow_other w B.b C.b cur' (fun MJ=>e ?_)) hr,k1,k2⟩
   exact(S.inj id i r q B C hid h hw hB hC MJ.symm).symm
 ·unfold bJ at h h'
  have get:∀j p,(if j=id then some r' else g j)=some p->∃p0,g j=some p0/\(p.w=true->p0.w=true):=fun j p hp=>by
   split at hp
   ·rename_i e;subst e;injection hp with hp;subst hp;exact⟨r,hid,fun _=>hw⟩
   ·exact⟨p,hp,fun h=>h⟩
  obtain⟨p,hp,PQ⟩:=get _ _ h
  obtain⟨p',Om,_⟩:=get _ _ h'
  exact S.inj i i' p p' C C' hp Om (PQ IW) hC ub he
theorem gn.rename (S:gn P hs D ι g w) {i:Id} {r:Row} {B:sa} (hi:g i=some r) (hw:r.w=true) (hB:ι i=some B) (hn:ι id=none):gn P hs D (kC ι id B) (bJ (cr g i) id r) w:=by
 have S':=S.stay (w':=w) (D':=D) (ι':=kC ι id B) (fun _ _=>rfl) (Nat.le_refl _) (fun _ h=>h) S.dead (fun _ h=>.inl h) (fa hn)
 have gU:i≠id:=by rintro rfl;rw[hn]at hB;cases hB
 obtain⟨B1,AK,R,k1,k2⟩:=S'.row i r hi
 rw[gi gU,hB]at AK;injection AK with AK;subst AK
 have get:∀j p,bJ (cr g i) id r j=some p->(j=id/\p=r)∨(j≠id/\j≠i/\g j=some p):=fun j p hp=>by
  unfold bJ cr at hp
  split at hp
  ·rename_i e;injection hp with hp;exact .inl ⟨e,hp.symm⟩
  ·rename_i e
   split at hp
   ·cases hp
   ·rename_i e';exact .inr ⟨e,e',hp⟩
 refine⟨S.lo,S.dead,fun j p h=>?_,fun j j' p p' C C' h h' PQ hC ub he=>?_⟩
 ·rcases get j p h with⟨rfl,rfl⟩|⟨_,_,hp⟩
  ·exact⟨B,dR _ _ _,R,k1,k2⟩
  ·exact S'.row j p hp
 ·rcases get j p h with⟨rfl,rfl⟩|⟨q1,q2,hp⟩
  ·rcases get j' p' h' with⟨rfl,rfl⟩|⟨q1',q2',Om⟩
   ·rfl
   ·exfalso
    rw[dR]at hC;injection hC with hC;subst hC
    rw[gi q1']at ub
    exact q2' (S.inj i j' p p' B C' hi Om hw hB ub he).symm
  ·rcases get j' p' h' with⟨rfl,rfl⟩|⟨q1',q2',Om⟩
   ·exfalso
    rw[dR]at ub;injection ub with ub;subst ub
    rw[gi q1]at hC
    exact q2 (S.inj j i p p' C B hp hi PQ hC hB he)
   ·rw[gi q1]at hC
    rw[gi q1']at ub
    exact S.inj j j' p p' C C' hp Om PQ hC ub he
def CZ (P:Program) (hs:Nat) (a:Act) (o:Oper) (w:World) (D:Nat->Prop) (ι:Names) (id:Id) (v:AV) (g':Rows):Prop:=
 ∃u w' ι',((execOp a.eval o).run P w=.ok (.value u) w'∨(execOp a.eval o).run P w=.ok .skip w'/\u=undef)/\Step hs D ι w D ι' w'/\gn P hs D ι' g' w'/\cE P w' D ι' v u/\∀i,i≠id->ι' i=ι i
theorem Cn {xs:List AV} {vs:Array Value} (h:fo P w D ι xs vs) (hf:∀a∈xs,a.cell=true):∀v∈vs.toList,v.oneCell'=true:=by
 intro v hv
 obtain⟨j,hj,rfl⟩:=List.getElem_of_mem hv
 have KA:j<xs.length:=by rw[<-h.1];simpa using hj
 obtain⟨u,hu,hr⟩:=h.2 j _ (List.getElem?_eq_getElem KA)
 have hc:=hr.A9 (hf _ (List.getElem_mem KA))
 have:vs.toList[j]=u:=by
  have:vs.toList[j]? =some u:=by simpa using hu
  rw[List.getElem?_eq_getElem hj]at this;injection this
 rw[this]
 cases u<;>simp_all [Value.oneCell']
theorem jP {i j n m:Nat} (h:i<n) (hj:j<m):i*m+j<n*m:=by
 have:(i+1)*m<=n*m:=Nat.mul_le_mul_right _ h
 rw[Nat.add_mul,Nat.one_mul]at this;omega
theorem ly.cur {B:sa} {r:Row} (R:ly P w D ι B r):∃cur T,w.heap[B.b]? =some (.cells cur T (0,0))/\cur.size=B.C/\∀i j cs a,r.rows[i]? =some cs->cs[j]? =some a->∃v,cur[i*r.sz+j]? =some v/\cE P w D ι a v:=by
 obtain⟨cur,T,h1,h2⟩:=R.xn
 refine⟨cur,T,h1,h2,fun i j cs a hi hj=>?_⟩
 obtain⟨v,hv,hr⟩:=R.at_ i j cs a hi hj
 exact⟨v,by simpa[World.cell?,h1]using hv,hr⟩
theorem KZ {t:TypeId} {n:Nat} {x y:Operand} {x' y':O} {g':Rows} (S:gn P hs D ι g w) (E:bQ P w D ι env a) (ho:o.op=.store t x y) (hn:dS P t=some n) (hx:cO P x=some x') (hy:cO P y=some y')
  (hv:bW g n (cK env y') (cK env x')=some g'):CZ P hs a o w D ι id .undef g':=by
 have rx:=dm E hx
 have ry:=dm E hy
 unfold bW at hv
 split at hv
 ·rename_i i k off hp
  rw[hp]at rx
  simp only[Option.bind_eq_some_iff]at hv
  obtain⟨r,hg,cs,dw,hv⟩:=hv
  split at hv
  ·rename_i hc
   obtain⟨c1,c2,c3,c4⟩:=hc
   simp at hv;subst hv
   obtain⟨B,he,hB,hk⟩:=iy rx
   obtain⟨B',dC,R,jM,mc⟩:=S.row i r hg
   rw[hB]at dC;injection dC with dC;subst dC
   replace R:=R.row hk
   obtain⟨cur,T,hblk,hC,vI⟩:=R.cur
   have hL:=qI ry c3
   have h1:=Cn hL (List.all_eq_true.1 c3)
   have Ly:(a.eval y).cells.size=n:=by rw[hL.1,c2]
   have lj:=(List.getElem?_eq_some_iff.1 dw).1
   have hlen:=R.len cs (List.mem_of_getElem? dw)
   have hbound:k*r.sz+r.sz<=r.rows.length*r.sz:=by
    have:(k+1)*r.sz<=r.rows.length*r.sz:=Nat.mul_le_mul_right _ lj
    rwa [Nat.add_mul,Nat.one_mul]at this
   have hf:=R.fits
   have dB:=run_storeCells_at P B.b (k*B.sz+off) T (a.eval y).cells.toList 0 cur w hblk (by rw[R.sz];simp only[Array.length_toList];omega) h1
   simp only[Nat.add_zero,Array.length_toList]at dB
   have vP:=S.put (r':={r with rows:=r.rows.set k (cN cs off (cK env y').cells)}) hg c1 hB hblk (cur':=(cur.toList.take (k*B.sz+off)++(a.eval y).cells.toList++cur.toList.drop (k*B.sz+off+(a.eval y).cells.size)).toArray)
    (by rw[R.sz];simp;omega) c1 rfl (by simpa using R.fits) (fun c TN=>by
     rcases List.mem_or_eq_of_mem_set TN with h|rfl
     ·exact R.len c h
     ·simp[cN];omega) (fun c TN b hb=>by
     rcases List.mem_or_eq_of_mem_set TN with h|rfl
     ·exact R.flat c h b hb
     ·unfold cN at hb
      rcases List.mem_append.1 hb with hb|hb
      ·rcases List.mem_append.1 hb with hb|hb
       ·exact R.flat cs (List.mem_of_getElem? dw) b (List.mem_of_mem_take hb)
       ·exact List.all_eq_true.1 c3 b hb
      ·exact R.flat cs (List.mem_of_getElem? dw) b (List.mem_of_mem_drop hb)) (fun i2 j c b yi hj=>by
     rw[R.sz]
     simp only[List.getElem?_toArray]
     by_cases yj:i2=k
     ·subst yj
      rw[List.getElem?_set_self lj]at yi
      injection yi with yi;subst yi
      unfold cN at hj
      by_cases hjo:j<off
      ·rw[List.append_assoc,List.getElem?_append_left (by simp;omega),List.getElem?_take,if_pos hjo]at hj
       rw[List.append_assoc,List.getElem?_append_left (by simp;omega),List.getElem?_take,if_pos (by omega)]
       simpa using vI _ _ _ _ dw hj
      ·by_cases iO:j<off+n
       ·rw[List.append_assoc,List.getElem?_append_right (by simp;omega),List.getElem?_append_left (by simp;omega)]at hj
        rw[List.append_assoc,List.getElem?_append_right (by simp;omega),List.getElem?_append_left (by simp;omega)]
        simp only[List.length_take]at hj ⊢
        rw[show j-min off cs.length=j-off by omega]at hj
        rw[show i2*r.sz+j-min (i2*r.sz+off) cur.toList.length=j-off by simp;omega]
        simpa using hL.2 _ _ hj
       ·rw[List.getElem?_append_right (by simp;omega)]at hj
        rw[List.getElem?_append_right (by simp;omega)]
        simp only[List.length_append,List.length_take,List.getElem?_drop,Array.length_toList]at hj ⊢
        rw[show off+(cK env y').cells.length+(j-(min off cs.length+(cK env y').cells.length))=j by omega]at hj
        rw[show i2*r.sz+off+(a.eval y).cells.size+(i2*r.sz+j-(min (i2*r.sz+off) cur.size+(a.eval y).cells.size))=i2*r.sz+j by omega]
        simpa using vI _ _ _ _ dw hj
     ·rw[List.getElem?_set_ne (fun e=>yj e.symm)]at yi
      have hi2l:=(List.getElem?_eq_some_iff.1 yi).1
      have gR:j<r.sz:=by rw[<-R.len c (List.mem_of_getElem? yi)];exact(List.getElem?_eq_some_iff.1 hj).1
      have:=vI _ _ _ _ yi hj
      rcases Nat.lt_or_gt_of_ne yj with dM|Lf
      ·have h2:i2*r.sz+j<k*r.sz:=jP dM gR
       rw[List.append_assoc,List.getElem?_append_left (by simp;omega),List.getElem?_take,if_pos (by omega)]
       simpa using this
      ·have h2:k*r.sz+r.sz<=i2*r.sz:=by
        have:(k+1)*r.sz<=i2*r.sz:=Nat.mul_le_mul_right _ Lf
        rwa [Nat.add_mul,Nat.one_mul]at this
       rw[List.getElem?_append_right (by simp;omega)]
       simp only[List.length_append,List.length_take,List.getElem?_drop,Array.length_toList]
       rw[show k*r.sz+off+(a.eval y).cells.size+(i2*r.sz+j-(min (k*r.sz+off) cur.size+(a.eval y).cells.size))=i2*r.sz+j by omega]
       simpa using this)
   refine⟨undef,_,ι,.inr ⟨?_,rfl⟩,vP.2,vP.1,cE.undef,fun _ _=>rfl⟩
   simp only[execOp,ho,he,Instr.storeAt,Instr.sureAddr,storeVar,Sem.run_bind,Sem.run_pure,Result.andThen_ok,run_sizeOf hn,Ly,ne_eq,not_true_eq_false,if_false,dB]
  ·simp at hv
 ·simp at hv
end
end Go.Proofs.YtgoelphibofcmaaGreat.V

namespace Go.Proofs.YtgoelphibofcmaaGreat.V
open Go.RowKit
variable {P:Program} {w w':World} {D D':Nat->Prop} {ι ι':Names}
section
variable {g:Rows} {hs:Nat} {env:Env} {a:Act} {o:Oper} {id:Id} {v:AV}
theorem rP (S:gn P hs D ι g w) {y:AV} {u:Value} {ys:List (List AV)} {sz:Nat} (hr:cE P w D ι y u) (hy:bz g y=some ys) (hl:∀c∈ys,c.length=sz) (hf:∀c∈ys,∀b∈c,b.cell=true):
  ∃A c,u=.slice A ys.length c/\(ys=[]∨∃b o,∃news:List Value,A=some ⟨b,o,none⟩/\news.length=ys.length*sz/\(∀j v,news[j]? =some v->w.cell? ⟨b,o+j,none⟩=some v)/\fo P w D ι ys.flatten news.toArray/\∀v∈news,v.oneCell'=true):=by
 have fin:∀b o,ys≠[]->(∀i j cs x,ys[i]? =some cs->cs[j]? =some x->∃v,w.cell? ⟨b,o+(i*sz+j),none⟩=some v/\cE P w D ι x v)->
   ∃news:List Value,news.length=ys.length*sz/\(∀j v,news[j]? =some v->w.cell? ⟨b,o+j,none⟩=some v)/\fo P w D ι ys.flatten news.toArray/\∀v∈news,v.oneCell'=true:=by
  intro b o _ h
  have hlen:=Iv hl
  have at_:∀k,k<ys.length*sz->∃x,ys.flatten[k]? =some x/\∃v,w.cell? ⟨b,o+k,none⟩=some v/\cE P w D ι x v:=by
   intro k hk
   have lp:0<sz:=by
    rcases Nat.eq_zero_or_pos sz with h0|h0
    ·subst h0;simp at hk
    ·exact h0
   have hi:k / sz<ys.length:=Nat.div_lt_of_lt_mul (by rw[Nat.mul_comm];exact hk)
   have hj:k % sz<sz:=Nat.mod_lt _ lp
   have dw:=List.getElem?_eq_getElem hi
   have gR:k % sz<ys[k / sz].length:=by rw[hl _ (List.getElem_mem hi)];exact hj
   have hx:=List.getElem?_eq_getElem gR
   have e:k / sz*sz+k % sz=k:=by rw[Nat.mul_comm];exact Nat.div_add_mod _ _
   refine⟨_,by rw[<-flat_get hl dw hx,e],?_⟩
   obtain⟨v,hv,lG⟩:=h _ _ _ _ dw hx
   rw[e]at hv
   exact⟨v,hv,lG⟩
  let news:=(List.range (ys.length*sz)).map fun k=>(w.cell? ⟨b,o+k,none⟩).getD undef
  have hn:∀k,k<ys.length*sz->∀v,w.cell? ⟨b,o+k,none⟩=some v->news[k]? =some v:=fun k hk v hv=>by
   simp only[news,List.getElem?_map,List.getElem?_range hk,Option.map_some,hv,Option.getD_some]
  have hR:fo P w D ι ys.flatten news.toArray:=⟨by simp[news,hlen],fun j x hx=>by
   have gR:=(List.getElem?_eq_some_iff.1 hx).1
   rw[hlen]at gR
   obtain⟨x',tC,v,hv,lG⟩:=at_ j gR
   rw[hx]at tC;injection tC with tC;subst tC
   exact⟨v,by simpa using hn j gR v hv,lG⟩⟩
  refine⟨news,by simp[news],fun j v hj=>?_,hR,?_⟩
  ·have gR:j<ys.length*sz:=by have:=(List.getElem?_eq_some_iff.1 hj).1;simpa[news]using this
   obtain⟨x,_,v',nQ,_⟩:=at_ j gR
   rw[hn j gR v' nQ]at hj
   injection hj with hj
   rw[<-hj];exact nQ
  ·have:=Cn hR (fun x hx=>by
    obtain⟨c,hc,UD⟩:=List.mem_flatten.1 hx
    exact hf c hc x UD)
   simpa using this
 unfold bz at hy
 split at hy
 ·simp at hy;subst hy
  exact⟨none,0,j6 hr,.inl rfl⟩
 ·rename_i rows
  simp at hy;subst hy
  obtain⟨A,c,he,_,_,h3⟩:=wG hr
  refine⟨A,c,he,?_⟩
  rcases h3 with h3|⟨b,oo,sz',vs,rfl,hD,KC,_,hc,hi⟩
  ·exact .inl h3
  ·by_cases h0:rows=[]
   ·exact .inl h0
   ·have BF:sz'=sz:=by
     cases rows with
     |nil=>exact(h0 rfl).elim
     |cons c r=>rw[<-KC c (by simp),hl c (by simp)]
    subst BF
    obtain⟨news,q1,q2,q3,q4⟩:=fin b oo h0 (fun i j cs x dw hx=>⟨_,hc i j (List.getElem?_eq_some_iff.1 dw).1 (by rw[<-KC cs (List.mem_of_getElem? dw)];exact(List.getElem?_eq_some_iff.1 hx).1),.eP _ _ (hi i j cs x dw hx)⟩)
    exact .inr ⟨b,oo,news,rfl,q1,q2,q3,q4⟩
 ·rename_i i off len
  simp only[Option.bind_eq_some_iff]at hy
  obtain⟨r,hg,hy⟩:=hy
  split at hy
  ·rename_i hle
   simp at hy;subst hy
   obtain⟨oo,cap,B,he,hB,h1,h2,h3,h4,hk⟩:=iQ hr
   obtain⟨B',dC,R,_,_⟩:=S.row i r hg
   rw[hB]at dC;injection dC with dC;subst dC
   replace R:=R.row hk
   have hlen:((r.rows.drop off).take len).length=len:=by simp;omega
   refine⟨some ⟨B.b,oo,none⟩,cap,by rw[hlen];exact he,?_⟩
   by_cases h0:(r.rows.drop off).take len=[]
   ·exact .inl h0
   ·have BF:r.sz=sz:=by
     cases hq:(r.rows.drop off).take len with
     |nil=>exact(h0 hq).elim
     |cons c q=>
      have hm:c∈(r.rows.drop off).take len:=by rw[hq];simp
      rw[<-hl c hm,R.len c (List.mem_of_mem_drop (List.mem_of_mem_take hm))]
    have hlp:0<len:=by rw[<-hlen];exact List.length_pos_iff.2 h0
    have CN:oo=off*B.sz:=by rcases h2 with h2|h2<;>omega
    obtain⟨news,q1,q2,q3,q4⟩:=fin B.b oo h0 (fun i2 j cs x dw hx=>by
     rw[List.getElem?_take]at dw
     split at dw
     ·rw[List.getElem?_drop]at dw
      obtain⟨v,hv,lG⟩:=R.at_ _ _ _ _ dw hx
      refine⟨v,?_,lG⟩
      rw[CN,R.sz,<-BF]
      rw[Nat.add_mul]at hv
      rw[<-Nat.add_assoc]
      exact hv
     ·simp at dw)
    exact .inr ⟨B.b,oo,news,rfl,q1,q2,q3,q4⟩
  ·simp at hy
 ·simp at hy
theorem oP {t ty e:TypeId} {i:TypeInfo} (ht:P.underlying t=some (.slice e)) (hi:P.info? e=some i) (A:Option Addr) (n c:Nat) (hn:n<=c) (B:Option Addr) (d:Nat):
  (Builtin.append_ #[t,t] ty #[.slice A n c,.slice B 0 d]).run P w=.ok (.slice A n c) w:=by
 have hf:(Builtin.firstCells i.size 0 (.slice B 0 d)).run P w=.ok #[] w:=by
  cases B<;>simp[Builtin.firstCells,loadCells,loadCellsFrom]
 cases A with
 |none=>simp[Builtin.append_,run_underlying ht,sizeOf,typeInfo,hi,Builtin.lenOf,hn,hf]
 |some A=>simp[Builtin.append_,run_underlying ht,sizeOf,typeInfo,hi,Builtin.lenOf,hn,hf,storeCells]
theorem xK {t ty e T:TypeId} {i:TypeInfo} (ht:P.underlying t=some (.slice e)) (hi:P.info? e=some i) (b rS En:Nat) (cur:Array Value) (hg:w.heap[b]? =some (.cells cur T (0,0)))
  (x:Addr) (m c:Nat) (news:List Value) (hl:news.length=m*i.size) (Q0:∀j u,news[j]? =some u->w.cell? (x.add j)=some u) (h1:∀u∈news,u.oneCell'=true)
  (fS:rS+m<=En) (Bw:rS*i.size+news.length<=cur.size):
  (Builtin.append_ #[t,t] ty #[.slice (some ⟨b,0,none⟩) rS En,.slice (some x) m c]).run P w=
   .ok (.slice (some ⟨b,0,none⟩) (rS+m) En) (w.setRow b (cur.toList.take (rS*i.size)++news++cur.toList.drop (rS*i.size+news.length)).toArray):=by
 have hf:=run_firstCells_some (P:=P) w i.size m x m c news hl Q0
 have dB:=run_storeCells_at P b (rS*i.size) T news 0 cur w hg (by simpa using Bw) h1
 simp only[Nat.add_zero]at dB
 simp[Builtin.append_,run_underlying ht,sizeOf,typeInfo,hi,Builtin.lenOf,fS,hf,kb,dB]
theorem Br (w:World) (GO yL:Nat) (e:TypeId) (h:GO<=dL):GO<=grownCap w GO yL e/\grownCap w GO yL e<=maxLen:=by
 unfold dL at h
 simp only[grownCap,Question.cut,maxLen]
 have:=Nat.mod_lt (w.tape w.drawn (.appendCap GO yL e)) (show 0<2 ^ 63-GO by omega)
 omega
theorem fV {x y:Operand} {t:TypeId} {u:Value} (ho:o.op=.call {callee:=.builtin .append,args:= #[x,y],argTypes:= #[t,t]}) (h:(Builtin.append_ #[t,t] o.type #[a.eval x,a.eval y]).run P w=.ok u w'):(execOp a.eval o).run P w=.ok (.value u) w':=by
 simp only[execOp,ho,resolve,Sem.run_bind,Sem.run_pure,Result.andThen_ok,invoke,builtin]
 simp only[List.map_toArray,List.map_cons,List.map_nil]
 rw[h];rfl
theorem Cu {T:TypeId} (S:gn P hs D ι g w) (cells:Array Value) (hn:ι id=none) (B:sa):Step hs D ι w D (kC ι id B) (w.drew.alloc (.cells cells T)):=
 Step.stay S (fun k hk=>by show(w.heap.push _)[k]? = _;rw[Array.getElem?_push,if_neg (by omega)]) (by show _<=(w.heap.push _).size;simp) rfl rfl rfl (fun _ h=>h) (fun _ h=>.inl h) (fa hn)
theorem Ij {x y:Operand} {x' y':O} {t e:TypeId} {m:Nat} {z:List K} {i:TypeInfo} {ys:List (List AV)} {g':Rows} (S:gn P hs D ι g w) (E:bQ P w D ι env a) (hn:ι id=none) (ho:o.op=.call {callee:=.builtin .append,args:= #[x,y],argTypes:= #[t,t]})
  (ht:P.underlying t=some (.slice e)) (ft:dS P e=some (m+1)) (hz:jH P e=some z) (hi:P.info? e=some i) (hby:i.bytes<=32768) (hx:cO P x=some x') (hy:cO P y=some y') (Fq:bz g (cK env y')=some ys)
  (hv:aX g id (m+1) (cK env x') ys=some (v,g')):CZ P hs a o w D ι id v g':=by
 have rx:=dm E hx
 have ry:=dm E hy
 obtain⟨it,zv,qN,pV,P3,hm,Fs⟩:=jT hz
 rw[hi]at qN;injection qN with qN;subst qN
 have jD:i.size=m+1:=by simpa[dS,hi]using ft
 have fits:∀n,n<=dL->n*i.bytes<=140737488355328:=fun n h=>by
  unfold dL at h
  have:=Nat.mul_le_mul h hby
  omega
 have e63:∀n,n<=dL->(n:Int)<=9223372036854775807:=fun n h=>by unfold dL at h;omega
 have same:∀(w1:World) (cells:Array Value),w1=w.drew.alloc (.cells cells e)->w1.heap=w.heap.push (.cells cells e (0,0)):=fun w1 cells h=>by subst h;rfl
 have Qf:∀l:List (List AV),(l.all fun c=>c.length==m+1&&c.all AV.cell)=true->(∀c∈l,c.length=m+1)/\∀c∈l,∀b∈c,b.cell=true:=fun l h=>by
  rw[List.all_eq_true]at h
  refine⟨fun c hc=>?_,fun c hc b hb=>?_⟩
  ·have:=h c hc;simp at this;exact this.1
  ·have:=h c hc;simp at this;exact this.2 b hb
 unfold aX at hv
 split at hv
 ·rename_i hb
  rw[hb]at rx
  have ex:=j6 rx
  split at hv
  ·simp at hv
   obtain⟨rfl,rfl⟩:=hv
   obtain⟨A,c,ey,_⟩:=rP (sz:=m+1) S ry Fq (fun c h=>by cases h) (fun c h=>by cases h)
   refine⟨_,w,ι,.inl (fV ho (by rw[ex,ey];exact oP ht hi none 0 0 (Nat.le_refl _) A c)),Step.refl _ _ _ _,S,.eP _ _ .cC,fun _ _=>rfl⟩
  ·rename_i y0 yr
   split at hv
   ·rename_i hc
    simp only[Option.some.injEq,Prod.mk.injEq]at hv
    obtain⟨rfl,rfl⟩:=hv
    obtain⟨hl,hf⟩:=Qf _ hc.2
    obtain⟨A,c,ey,h2⟩:=rP (sz:=m+1) S ry Fq hl hf
    rcases h2 with h2|⟨b,oo,news,rfl,q1,q2,q3,q4⟩
    ·cases h2
    have fZ:=run_append_nil (P:=P) w t o.type e i zv ht hi pV ⟨b,oo,none⟩ (y0::yr).length c news (by rw[jD];exact q1) (fun j v hj=>by rw[kb];exact q2 j v hj) (by simp) (e63 _ hc.1) (by have:=fits _ hc.1;omega)
    obtain⟨g1,g2⟩:=Br w (y0::yr).length 0 e hc.1
    have dw:(news.toArray++Builtin.zeroCells zv.cells (grownCap w (y0::yr).length 0 e-(y0::yr).length)).size=grownCap w (y0::yr).length 0 e*(m+1):=by
     rw[Array.size_append,size_zeroCells,P3,jD]
     simp only[List.size_toArray,q1]
     rw[<-Nat.add_mul];congr 1;omega
    have S1:=S.alloc (w':=w.drew.alloc (.cells (news.toArray++Builtin.zeroCells zv.cells (grownCap w (y0::yr).length 0 e-(y0::yr).length)) e)) (r:=⟨true,m+1,y0::yr⟩) rfl hn rfl (by rw[dw];exact Nat.mul_le_mul_right _ g1) hl hf
     (fun k j cs b2 hk hj=>by
      obtain⟨u,hu,xD⟩:=q3.2 _ _ (flat_get hl hk hj)
      refine⟨u,?_,xD⟩
      have dM:=(Array.getElem?_eq_some_iff.1 hu).1
      dsimp only
      rw[Array.getElem?_append_left dM];exact hu)
    have dB:=Cu (T:=e) S (news.toArray++Builtin.zeroCells zv.cells (grownCap w (y0::yr).length 0 e-(y0::yr).length)) hn ⟨w.heap.size,m+1,(news.toArray++Builtin.zeroCells zv.cells (grownCap w (y0::yr).length 0 e-(y0::yr).length)).size,none⟩
    refine⟨_,_,_,.inl (fV ho (by rw[ex,ey];exact fZ)),dB,S1,?_,fun _ h=>gi h⟩
    refine .own _ _ _ _ _ _ (dR _ _ _) rfl g1 (.inr (by simp)) ?_ g2
    dsimp only;rw[dw];simp
   ·simp at hv
 ·rename_i i0 len hb
  rw[hb]at rx
  simp only[Option.bind_eq_some_iff]at hv
  obtain⟨r,hg,hv⟩:=hv
  split at hv
  ·rename_i hc
   obtain⟨c1,c2,c3,c4,c5⟩:=hc
   simp only[Option.some.injEq,Prod.mk.injEq]at hv
   obtain⟨rfl,rfl⟩:=hv
   obtain⟨hl,hf⟩:=Qf _ c5
   obtain⟨A,c,ey,h2⟩:=rP (sz:=m+1) S ry Fq hl hf
   obtain⟨oo,cap,B,ex,hB,h1,CN,h3,h4,hk⟩:=iQ rx
   obtain⟨B',dC,R,jM,mc⟩:=S.row _ _ hg
   rw[hB]at dC;injection dC with dC;subst dC
   replace R:=R.row hk
   have Iy:B.sz=m+1:=R.sz.trans c2
   have zL:∀cs∈r.rows++ys,cs.length=m+1:=fun cs dw=>by
    rcases List.mem_append.1 dw with h|h
    ·rw[<-c2];exact R.len cs h
    ·exact hl cs h
   have MF:∀cs∈r.rows++ys,∀b∈cs,b.cell=true:=fun cs dw=>by
    rcases List.mem_append.1 dw with h|h
    ·exact R.flat cs h
    ·exact hf cs h
   rcases h2 with rfl|⟨yb,yo,news,rfl,q1,q2,q3,q4⟩
   ·have Gn:=S.rename hg c1 hB hn
    refine⟨_,w,kC ι id B,.inl (fV ho (by rw[ex,ey];exact oP ht hi _ _ _ h1 A c)),⟨Below.refl _ _,fun _ _=>rfl,fun _ h=>h,fa hn,fun _ h=>.inl h⟩,?_,?_,fun _ h=>gi h⟩
    ·have:(⟨true,m+1,r.rows++[]⟩:Row)=r:=by cases r;simp_all
     rw[this];exact Gn
    ·simp only[List.length_nil,Nat.add_zero]
     exact .own _ _ _ _ _ B (dR _ _ _) hk h1 CN h3 h4
   ·obtain⟨cur,T,hblk,hC,vI⟩:=R.cur
    by_cases fS:len+ys.length<=cap
    ·have Q3:ys≠[]->oo=0:=fun h=>by
      rcases CN with CN|CN
      ·have:=List.length_pos_iff.2 h;omega
      ·simpa using CN
     by_cases hy0:ys=[]
     ·subst hy0
      have Gn:=S.rename hg c1 hB hn
      refine⟨_,w,kC ι id B,.inl (fV ho (by rw[ex,ey];exact oP ht hi _ _ _ h1 _ c)),⟨Below.refl _ _,fun _ _=>rfl,fun _ h=>h,fa hn,fun _ h=>.inl h⟩,?_,?_,fun _ h=>gi h⟩
      ·have:(⟨true,m+1,r.rows++[]⟩:Row)=r:=by cases r;simp_all
       rw[this];exact Gn
      ·simp only[List.length_nil,Nat.add_zero]
       exact .own _ _ _ _ _ B (dR _ _ _) hk h1 CN h3 h4
     have ho0:=Q3 hy0
     subst ho0
     have Bw:len*i.size+news.length<=cur.size:=by
      rw[jD,q1,hC,<-Nat.add_mul]
      refine Nat.le_trans ?_ h3
      rw[Iy,Nat.zero_add]
      exact Nat.mul_le_mul_right _ fS
     have fZ:=xK (ty:=o.type) ht hi B.b len cap cur hblk ⟨yb,yo,none⟩ ys.length c news (by rw[jD];exact q1) (fun j v hj=>by rw[kb];exact q2 j v hj) q4 fS Bw
     have mT:cur.toList.length=cur.size:=Array.length_toList
     simp only[jD]at fZ Bw
     obtain⟨P1,P2⟩:=S.put (r':=⟨true,m+1,r.rows++ys⟩) hg c1 hB hblk (cur':=(cur.toList.take (len*(m+1))++news++cur.toList.drop (len*(m+1)+news.length)).toArray) (by simp only[List.size_toArray,List.length_append,List.length_take,List.length_drop,mT];omega) rfl c2.symm
      (by dsimp only;rw[List.length_append,<-c3,<-Iy];refine Nat.le_trans (Nat.mul_le_mul_right _ fS) (Nat.le_trans (by simp) h3)) zL MF (fun k j cs b2 hk hj=>by
       simp only[List.getElem?_toArray]
       have gR:j<m+1:=by rw[<-zL cs (List.mem_of_getElem? hk)];exact(List.getElem?_eq_some_iff.1 hj).1
       rw[c2]
       by_cases lj:k<r.rows.length
       ·rw[List.getElem?_append_left lj]at hk
        have h2:k*(m+1)+j<len*(m+1):=jP (by omega) gR
        rw[List.append_assoc,List.getElem?_append_left (by simp only[List.length_take,mT];omega),List.getElem?_take,if_pos h2]
        have:=vI k j cs b2 hk hj
        rw[c2]at this;simpa using this
       ·rw[List.getElem?_append_right (by omega)]at hk
        have vM:=(List.getElem?_eq_some_iff.1 hk).1
        have qq:len*(m+1)<=k*(m+1):=Nat.mul_le_mul_right _ (by omega)
        have qt:k*(m+1)+j-len*(m+1)=(k-r.rows.length)*(m+1)+j:=by
         rw[<-c3,Nat.sub_mul];omega
        obtain⟨u,hu,xD⟩:=q3.2 _ _ (flat_get hl hk hj)
        refine⟨u,?_,xD⟩
        have Fo:news[(k-r.rows.length)*(m+1)+j]? =some u:=by simpa using hu
        have dM:=(List.getElem?_eq_some_iff.1 Fo).1
        rw[List.append_assoc,List.getElem?_append_right (by simp only[List.length_take,mT];omega),List.getElem?_append_left (by simp only[List.length_take,mT];omega)]
        rw[<-Fo]
        congr 1
        simp only[List.length_take,mT]
        omega)
     have dO:bJ (cr (bJ g i0 ⟨true,m+1,r.rows++ys⟩) i0) id ⟨true,m+1,r.rows++ys⟩=bJ (cr g i0) id ⟨true,m+1,r.rows++ys⟩:=by
      funext q;simp only[bJ,cr]
      by_cases h:q=id<;>by_cases h':q=i0<;>simp[h,h']
     have Gn:=P1.rename (i:=i0) (id:=id) (r:=⟨true,m+1,r.rows++ys⟩) (by simp[bJ]) rfl hB hn
     rw[dO]at Gn
     refine⟨_,_,_,.inl (fV ho (by rw[ex,ey];exact fZ)),P2.trans ⟨Below.refl _ _,fun _ _=>rfl,fun _ h=>h,fa hn,fun _ h=>.inl h⟩,Gn,?_,fun _ h=>gi h⟩
     exact .own _ _ _ _ _ B (dR _ _ _) hk fS (.inr (by simp)) h3 h4
    ·
     have holds:∃ug:List Value,ug.length=len*(m+1)/\(∀j v,ug[j]? =some v->w.cell? ⟨B.b,oo+j,none⟩=some v)/\fo P w D ι r.rows.flatten ug.toArray:=by
      obtain⟨A2,c2',e2,h2⟩:=rP (sz:=m+1) (u:=.slice (some ⟨B.b,oo,none⟩) len cap) S (.own i0 0 len oo cap B hB hk h1 CN h3 h4) (ys:=r.rows) (by simp[bz,hg,c3]) (fun cs h=>by rw[<-c2];exact R.len cs h) R.flat
      rcases h2 with h2|⟨b2,o2,ug,rfl,p1,p2,p3,_⟩
      ·refine⟨[],by simp[c3,h2],fun j v h=>by simp at h,by rw[h2];exact⟨rfl,fun j a h=>by simp at h⟩⟩
      ·injection e2 with e2 _ _
       injection e2 with e2
       injection e2 with e21 e22 _
       subst e21;subst e22
       exact⟨ug,by rw[p1,c3],p2,p3⟩
     obtain⟨ug,p1,p2,p3⟩:=holds
     have fZ:=run_append_grow (P:=P) w t o.type e i zv ht hi pV ⟨B.b,oo,none⟩ len cap ug (by rw[jD];exact p1) (fun j v hj=>by rw[kb];exact p2 j v hj) ⟨yb,yo,none⟩ ys.length c news (by rw[jD];exact q1) (fun j v hj=>by rw[kb];exact q2 j v hj) (by omega) (e63 _ c4) (growslice_fits (by omega) (fits _ c4))
     obtain⟨g1,g2⟩:=Br w (len+ys.length) cap e c4
     have dw:(ug.toArray++news.toArray++Builtin.zeroCells zv.cells (grownCap w (len+ys.length) cap e-(len+ys.length))).size=grownCap w (len+ys.length) cap e*(m+1):=by
      rw[Array.size_append,Array.size_append,size_zeroCells,P3,jD]
      simp only[List.size_toArray,q1,p1]
      rw[<-Nat.add_mul,<-Nat.add_mul];congr 1;omega
     have S1:=(S.kill i0).alloc (id:=id) (w':=w.drew.alloc (.cells (ug.toArray++news.toArray++Builtin.zeroCells zv.cells (grownCap w (len+ys.length) cap e-(len+ys.length))) e)) (r:=⟨true,m+1,r.rows++ys⟩) rfl hn rfl (by dsimp only;rw[dw,List.length_append,<-c3];exact Nat.mul_le_mul_right _ g1) zL MF
      (fun k j cs b2 hk hj=>by
       have Le:=flat_get zL hk hj
       rw[List.flatten_append]at Le
       have hol:ug.length=r.rows.flatten.length:=by have:=p3.1;simpa using this
       dsimp only
       by_cases dM:k*(m+1)+j<r.rows.flatten.length
       ·rw[List.getElem?_append_left dM]at Le
        obtain⟨u,hu,xD⟩:=p3.2 _ _ Le
        refine⟨u,?_,xD⟩
        rw[Array.getElem?_append_left (by simp;omega),Array.getElem?_append_left (by simp;omega)];exact hu
       ·rw[List.getElem?_append_right (by omega)]at Le
        obtain⟨u,hu,xD⟩:=q3.2 _ _ Le
        refine⟨u,?_,xD⟩
        have BB:=(Array.getElem?_eq_some_iff.1 hu).1
        simp only[List.size_toArray]at BB
        rw[Array.getElem?_append_left (by simp;omega),Array.getElem?_append_right (by simp;omega)]
        simp only[List.size_toArray,hol];exact hu)
     have dB:=Cu (T:=e) S (ug.toArray++news.toArray++Builtin.zeroCells zv.cells (grownCap w (len+ys.length) cap e-(len+ys.length))) hn ⟨w.heap.size,m+1,(ug.toArray++news.toArray++Builtin.zeroCells zv.cells (grownCap w (len+ys.length) cap e-(len+ys.length))).size,none⟩
     refine⟨_,_,_,.inl (fV ho (by rw[ex,ey];exact fZ)),dB,S1,?_,fun _ h=>gi h⟩
     refine .own _ _ _ _ _ _ (dR _ _ _) rfl g1 (.inr (by simp)) ?_ g2
     dsimp only;rw[dw];simp
  ·simp at hv
 ·simp at hv
theorem k6 {x:Operand} {t:TypeId} {u:Value} (ho:o.op=.call {callee:=.builtin .clear,args:= #[x],argTypes:= #[t]}) (h:(Builtin.clear_ #[t] o.type #[a.eval x]).run P w=.ok u w'):(execOp a.eval o).run P w=.ok (.value u) w':=by
 simp only[execOp,ho,resolve,Sem.run_bind,Sem.run_pure,Result.andThen_ok,invoke,builtin]
 simp only[List.map_toArray,List.map_cons,List.map_nil]
 rw[h];rfl
theorem KY {x:Operand} {x':O} {t e:TypeId} {m:Nat} {z:List K} {g':Rows} (S:gn P hs D ι g w) (E:bQ P w D ι env a) (ho:o.op=.call {callee:=.builtin .clear,args:= #[x],argTypes:= #[t]})
  (ht:P.underlying t=some (.slice e)) (ft:dS P e=some (m+1)) (hz:jH P e=some z) (hx:cO P x=some x') (hv:bR g z (cK env x')=some g'):CZ P hs a o w D ι id .undef g':=by
 have rx:=dm E hx
 obtain⟨it,zv,hi,pV,P3,hm,Fs⟩:=jT hz
 have jD:it.size=m+1:=by simpa[dS,hi]using ft
 unfold bR at hv
 split at hv
 ·rename_i hb
  rw[hb]at rx
  simp at hv;subst hv
  refine⟨undef,w,ι,.inl (k6 ho (by rw[j6 rx];simp only[Builtin.clear_,Sem.run_bind];simp[run_underlying ht,undef])),Step.refl _ _ _ _,S,cE.undef,fun _ _=>rfl⟩
 ·rename_i i off len hb
  rw[hb]at rx
  simp only[Option.bind_eq_some_iff]at hv
  obtain⟨r,hg,hv⟩:=hv
  split at hv
  ·rename_i hc
   obtain⟨c1,c2,c3⟩:=hc
   simp only[Option.some.injEq]at hv;subst hv
   obtain⟨oo,cap,B,ex,hB,h1,h2,h3,h4,hk⟩:=iQ rx
   obtain⟨B',dC,R,jM,mc⟩:=S.row _ _ hg
   rw[hB]at dC;injection dC with dC;subst dC
   replace R:=R.row hk
   obtain⟨cur,T,hblk,hC,vI⟩:=R.cur
   by_cases h0:len=0
   ·subst h0
    have e1:({r with rows:=r.rows.take off++List.replicate 0 (z.map K.av)++r.rows.drop (off+0)}:Row)=r:=by cases r;simp
    rw[e1]
    have e2:bJ g i r=g:=by
     funext q;unfold bJ;split
     ·rename_i h;rw[h,hg]
     ·rfl
    rw[e2]
    refine⟨undef,w,ι,.inl (k6 ho (by rw[ex];simp only[Builtin.clear_,Sem.run_bind];simp[run_underlying ht,undef])),Step.refl _ _ _ _,S,cE.undef,fun _ _=>rfl⟩
   ·have CU:oo=off*B.sz:=by rcases h2 with h2|h2<;>omega
    have Iy:B.sz=m+1:=by rw[R.sz,c2,Fs,jD]
    have yp:r.sz=m+1:=by rw[<-R.sz,Iy]
    have Ri:zv.cells.size=m+1:=by rw[P3,jD]
    have yu:(Builtin.zeroCells zv.cells len).toList.length=len*(m+1):=by rw[Array.length_toList,size_zeroCells,Ri]
    have Rh:∀k,k<len*(m+1)->∃c,z[k % z.length]? =some c/\(Builtin.zeroCells zv.cells len).toList[k]? =some c.val:=fun k hk=>by
     obtain⟨c,pU,xb⟩:=oY (n:=len*zv.cells.size) hm (by rw[Fs,jD];omega) k (by rw[Ri];exact hk)
     exact⟨c,pU,by rw[Array.getElem?_toList];exact xb⟩
    have hbound:(off+len)*(m+1)<=r.rows.length*(m+1):=Nat.mul_le_mul_right _ c3
    have By:=R.fits
    rw[yp]at By
    have TV:(off+len)*(m+1)=off*(m+1)+len*(m+1):=Nat.add_mul _ _ _
    have dB:=run_storeCells_at P B.b oo T (Builtin.zeroCells zv.cells len).toList 0 cur w hblk (by rw[yu,hC,CU,Iy];omega) (by
     intro v hv
     obtain⟨k,hk,rfl⟩:=List.getElem_of_mem hv
     obtain⟨c,_,xb⟩:=Rh k (by rw[<-yu];exact hk)
     rw[List.getElem?_eq_getElem hk]at xb
     injection xb with xb
     rw[xb];cases c<;>rfl)
    simp only[Nat.add_zero]at dB
    have mT:cur.toList.length=cur.size:=Array.length_toList
    obtain⟨P1,P2⟩:=S.put (r':={r with rows:=r.rows.take off++List.replicate len (z.map K.av)++r.rows.drop (off+len)}) hg c1 hB hblk (cur':=(cur.toList.take oo++(Builtin.zeroCells zv.cells len).toList++cur.toList.drop (oo+(Builtin.zeroCells zv.cells len).toList.length)).toArray)
     (by simp only[List.size_toArray,List.length_append,List.length_take,List.length_drop,mT,yu];rw[CU,Iy];omega) c1 rfl (by
      have:(r.rows.take off++List.replicate len (z.map K.av)++r.rows.drop (off+len)).length=r.rows.length:=by simp;omega
      dsimp only;rw[this];exact R.fits) (fun cs dw=>by
      rcases List.mem_append.1 dw with h|h
      ·rcases List.mem_append.1 h with h|h
       ·exact R.len cs (List.mem_of_mem_take h)
       ·rw[List.eq_of_mem_replicate h];simp[c2]
      ·exact R.len cs (List.mem_of_mem_drop h)) (fun cs dw b hb=>by
      rcases List.mem_append.1 dw with h|h
      ·rcases List.mem_append.1 h with h|h
       ·exact R.flat cs (List.mem_of_mem_take h) b hb
       ·rw[List.eq_of_mem_replicate h]at hb
        obtain⟨c,_,rfl⟩:=List.mem_map.1 hb;exact c.mM
      ·exact R.flat cs (List.mem_of_mem_drop h) b hb) (fun k j cs b hk hj=>by
      simp only[List.getElem?_toArray]
      rw[yp]
      rw[CU,Iy,yu]
      by_cases xd:k<off
      ·rw[List.append_assoc,List.getElem?_append_left (by simp;omega),List.getElem?_take,if_pos xd]at hk
       have gR:j<m+1:=by rw[<-yp,<-R.len cs (List.mem_of_getElem? hk)];exact(List.getElem?_eq_some_iff.1 hj).1
       have h2:=jP xd gR
       rw[List.append_assoc,List.getElem?_append_left (by simp only[List.length_take,mT];omega),List.getElem?_take,if_pos h2]
       have:=vI k j cs b hk hj
       rw[yp]at this;simpa using this
      ·by_cases vM:k<off+len
       ·rw[List.append_assoc,List.getElem?_append_right (by simp;omega),List.getElem?_append_left (by simp;omega)]at hk
        have gH:=List.eq_of_mem_replicate (List.mem_of_getElem? hk)
        subst gH
        simp only[List.getElem?_map,Option.map_eq_some_iff]at hj
        obtain⟨q,hq,rfl⟩:=hj
        have gR:=(List.getElem?_eq_some_iff.1 hq).1
        rw[Fs,jD]at gR
        have qq:off*(m+1)<=k*(m+1):=Nat.mul_le_mul_right _ (by omega)
        have qt:k*(m+1)+j-off*(m+1)=(k-off)*(m+1)+j:=by rw[Nat.sub_mul];omega
        have BB:(k-off)*(m+1)+j<len*(m+1):=jP (by omega) gR
        rw[List.append_assoc,List.getElem?_append_right (by simp only[List.length_take,mT];omega),List.getElem?_append_left (by simp only[List.length_take,mT,yu];omega)]
        obtain⟨c,pU,xb⟩:=Rh _ BB
        rw[Fs,jD,Nat.mul_comm (k-off),Nat.mul_add_mod,Nat.mod_eq_of_lt gR,hq]at pU
        injection pU with pU;subst pU
        refine⟨q.val,?_,wD q⟩
        rw[<-xb]
        congr 1
        simp only[List.length_take,mT];omega
       ·rw[List.getElem?_append_right (by simp;omega)]at hk
        simp only[List.length_append,List.length_take,List.length_replicate,List.getElem?_drop]at hk
        rw[show off+len+(k-(min off r.rows.length+len))=k by omega]at hk
        have lj:=(List.getElem?_eq_some_iff.1 hk).1
        have qq:(off+len)*(m+1)<=k*(m+1):=Nat.mul_le_mul_right _ (by omega)
        rw[List.getElem?_append_right (by simp only[List.length_append,List.length_take,mT,yu];omega)]
        simp only[List.length_append,List.length_take,mT,yu,List.getElem?_drop]
        rw[show off*(m+1)+len*(m+1)+(k*(m+1)+j-(min (off*(m+1)) cur.size+len*(m+1)))=k*(m+1)+j by omega]
        have:=vI k j cs b hk hj
        rw[yp]at this;simpa using this)
    refine⟨undef,_,ι,.inl (k6 ho ?_),P2,P1,cE.undef,fun _ _=>rfl⟩
    rw[ex]
    cases len with
    |zero=>exact(h0 rfl).elim
    |succ len=>
     simp only[Builtin.clear_,Sem.run_bind]
     simp[run_underlying ht,zeroValue,typeInfo,hi,pV,dB,undef]
  ·simp at hv
 ·simp at hv
theorem G3 {dT sT ty e:TypeId} {it:TypeInfo} (hu:P.underlying dT=some (.slice e)) (hi:P.info? e=some it) (A B:Option Addr) (rS En F6 ND:Nat) (h0:Nat.min rS F6=0):
  (Builtin.copy_ #[dT,sT] ty #[.slice A F6 ND,.slice B rS En]).run P w=.ok (goInt 0) w:=by
 cases A<;>cases B<;>simp[Builtin.copy_,run_underlying hu,Builtin.lenOf,Builtin.firstCells,sizeOf,typeInfo,hi,h0,storeCells,loadCells,loadCellsFrom]
theorem G4 {dT sT ty e:TypeId} {it:TypeInfo} (hu:P.underlying dT=some (.slice e)) (hi:P.info? e=some it) (A B:Addr) (rS En F6 ND:Nat) (cs:List Value) (hn:cs.length=Nat.min rS F6*it.size) (hl:(loadCells B cs.length).run P w=.ok cs.toArray w) (hs:(storeCells A cs).run P w=.ok () w'):
  (Builtin.copy_ #[dT,sT] ty #[.slice (some A) F6 ND,.slice (some B) rS En]).run P w=.ok (goInt (Nat.min rS F6)) w':=by
 simp[Builtin.copy_,run_underlying hu,Builtin.lenOf,Builtin.firstCells,sizeOf,typeInfo,hi,<-hn,hl,hs]
theorem pZ {x y:Operand} {t t2:TypeId} {u:Value} (ho:o.op=.call {callee:=.builtin .copy,args:= #[x,y],argTypes:= #[t,t2]}) (h:(Builtin.copy_ #[t,t2] o.type #[a.eval x,a.eval y]).run P w=.ok u w'):(execOp a.eval o).run P w=.ok (.value u) w':=by
 simp only[execOp,ho,resolve,Sem.run_bind,Sem.run_pure,Result.andThen_ok,invoke,builtin]
 simp only[List.map_toArray,List.map_cons,List.map_nil]
 rw[h];rfl
theorem NF {x y:Operand} {x' y':O} {t t2 e:TypeId} {m:Nat} {ys:List (List AV)} {v:AV} {g':Rows} (S:gn P hs D ι g w) (E:bQ P w D ι env a) (ho:o.op=.call {callee:=.builtin .copy,args:= #[x,y],argTypes:= #[t,t2]})
  (ht:P.underlying t=some (.slice e)) (ft:dS P e=some (m+1)) (hx:cO P x=some x') (hy:cO P y=some y') (Fq:bz g (cK env y')=some ys) (hv:FK g (m+1) (cK env x') ys=some (v,g')):CZ P hs a o w D ι id v g':=by
 have rx:=dm E hx
 have ry:=dm E hy
 obtain⟨it,hi,jD⟩:∃it,P.info? e=some it/\it.size=m+1:=by
  cases hq:P.info? e with
  |none=>simp[dS,hq]at ft
  |some it=>exact⟨it,rfl,by simpa[dS,hq]using ft⟩
 unfold FK at hv
 split at hv
 ·rename_i i off len hb
  rw[hb]at rx
  simp only[Option.bind_eq_some_iff]at hv
  obtain⟨r,hg,hv⟩:=hv
  split at hv
  ·rename_i hc
   obtain⟨c1,c2,c3,c4⟩:=hc
   simp only[Option.some.injEq,Prod.mk.injEq]at hv
   obtain⟨rfl,rfl⟩:=hv
   rw[List.all_eq_true]at c4
   have hl:∀c∈ys,c.length=m+1:=fun c hc=>by have:=c4 c hc;simp at this;exact this.1
   have hf:∀c∈ys,∀b∈c,b.cell=true:=fun c hc b hb=>by have:=c4 c hc;simp at this;exact this.2 b hb
   obtain⟨oo,cap,B,ex,hB,h1,h2,h3,h4,hk⟩:=iQ rx
   obtain⟨B',dC,R,jM,mc⟩:=S.row _ _ hg
   rw[hB]at dC;injection dC with dC;subst dC
   replace R:=R.row hk
   obtain⟨cur,T,hblk,hC,vI⟩:=R.cur
   obtain⟨A,sc,hu,hA⟩:=rP S ry Fq hl hf
   by_cases h0:min ys.length len=0
   ·rw[h0]
    have e1:({r with rows:=r.rows.take off++ys.take 0++r.rows.drop (off+0)}:Row)=r:=by cases r;simp
    rw[e1]
    have e2:bJ g i r=g:=by
     funext q;unfold bJ;split
     ·rename_i h;rw[h,hg]
     ·rfl
    rw[e2]
    refine⟨goInt 0,w,ι,.inl (pZ ho (by rw[ex,hu];exact G3 ht hi _ _ _ _ _ _ h0)),Step.refl _ _ _ _,S,.eP _ _ (.int _ _),fun _ _=>rfl⟩
   ·rcases hA with rfl|⟨b,o2,news,rfl,BD,hsrc,hR,h1c⟩
    ·simp at h0
    have QX:Nat.min ys.length len=min ys.length len:=rfl
    have hky:min ys.length len<=ys.length:=Nat.min_le_left _ _
    have lj:min ys.length len<=len:=Nat.min_le_right _ _
    generalize Ua:min ys.length len=kk at *
    have hlen0:len≠0:=by omega
    have CU:oo=off*B.sz:=by rcases h2 with h2|h2<;>omega
    have Iy:B.sz=m+1:=by rw[R.sz,c2]
    have yp:r.sz=m+1:=c2
    have Sw:kk*(m+1)<=ys.length*(m+1):=Nat.mul_le_mul_right _ hky
    have yu:(news.take (kk*(m+1))).length=kk*(m+1):=by rw[List.length_take,BD];omega
    have hbound:(off+kk)*(m+1)<=r.rows.length*(m+1):=Nat.mul_le_mul_right _ (by omega)
    have By:=R.fits
    rw[yp]at By
    have TV:(off+kk)*(m+1)=off*(m+1)+kk*(m+1):=Nat.add_mul _ _ _
    have dB:=run_storeCells_at P B.b oo T (news.take (kk*(m+1))) 0 cur w hblk (by rw[yu,hC,CU,Iy];omega) (fun v hv=>h1c v (List.mem_of_mem_take hv))
    have Sz:=run_loadCells_list (P:=P) w ⟨b,o2,none⟩ (news.take (kk*(m+1))) (fun j v hj=>by
     rw[List.getElem?_take]at hj
     split at hj
     ·have:=hsrc j v hj
      cases j with
      |zero=>simpa[Addr.add]using this
      |succ j=>simpa[Addr.add]using this
     ·cases hj)
    simp only[Nat.add_zero]at dB
    have mT:cur.toList.length=cur.size:=Array.length_toList
    have I4:(ys.take kk).length=kk:=by rw[List.length_take];omega
    obtain⟨P1,P2⟩:=S.put (r':={r with rows:=r.rows.take off++ys.take kk++r.rows.drop (off+kk)}) hg c1 hB hblk (cur':=(cur.toList.take oo++news.take (kk*(m+1))++cur.toList.drop (oo+(news.take (kk*(m+1))).length)).toArray)
     (by simp only[List.size_toArray,List.length_append,List.length_drop,mT,yu];rw[List.length_take,mT,CU,Iy];omega) c1 rfl (by
      have:(r.rows.take off++ys.take kk++r.rows.drop (off+kk)).length=r.rows.length:=by simp;omega
      dsimp only;rw[this];exact R.fits) (fun cs dw=>by
      rcases List.mem_append.1 dw with h|h
      ·rcases List.mem_append.1 h with h|h
       ·exact R.len cs (List.mem_of_mem_take h)
       ·rw[hl cs (List.mem_of_mem_take h)];exact c2.symm
      ·exact R.len cs (List.mem_of_mem_drop h)) (fun cs dw b hb=>by
      rcases List.mem_append.1 dw with h|h
      ·rcases List.mem_append.1 h with h|h
       ·exact R.flat cs (List.mem_of_mem_take h) b hb
       ·exact hf cs (List.mem_of_mem_take h) b hb
      ·exact R.flat cs (List.mem_of_mem_drop h) b hb) (fun k j cs b hk hj=>by
      simp only[List.getElem?_toArray]
      rw[yp]
      rw[CU,Iy,yu]
      by_cases xd:k<off
      ·rw[List.append_assoc,List.getElem?_append_left (by simp;omega),List.getElem?_take,if_pos xd]at hk
       have gR:j<m+1:=by rw[<-yp,<-R.len cs (List.mem_of_getElem? hk)];exact(List.getElem?_eq_some_iff.1 hj).1
       have h2:=jP xd gR
       rw[List.append_assoc,List.getElem?_append_left (by simp only[List.length_take,mT];omega),List.getElem?_take,if_pos h2]
       have:=vI k j cs b hk hj
       rw[yp]at this;simpa using this
      ·by_cases vM:k<off+kk
       ·rw[List.append_assoc,List.getElem?_append_right (by simp;omega),List.getElem?_append_left (by simp;omega)]at hk
        simp only[List.length_take]at hk
        rw[show k-min off r.rows.length=k-off by omega,List.getElem?_take,if_pos (by omega)]at hk
        have gR:j<m+1:=by rw[<-hl cs (List.mem_of_getElem? hk)];exact(List.getElem?_eq_some_iff.1 hj).1
        have qq:off*(m+1)<=k*(m+1):=Nat.mul_le_mul_right _ (by omega)
        have qt:k*(m+1)+j-off*(m+1)=(k-off)*(m+1)+j:=by rw[Nat.sub_mul];omega
        have BB:(k-off)*(m+1)+j<kk*(m+1):=jP (by omega) gR
        rw[List.append_assoc,List.getElem?_append_right (by simp only[List.length_take,mT];omega),List.getElem?_append_left (by rw[yu];simp only[List.length_take,mT];omega)]
        obtain⟨u,Ra,hu2⟩:=hR.2 ((k-off)*(m+1)+j) b (flat_get hl hk hj)
        refine⟨u,?_,hu2⟩
        rw[List.getElem?_take]
        simp only[List.length_take,mT]
        rw[show k*(m+1)+j-min (off*(m+1)) cur.size=(k-off)*(m+1)+j by omega,if_pos BB]
        simpa using Ra
       ·rw[List.getElem?_append_right (by simp;omega)]at hk
        simp only[List.length_append,List.length_take,List.getElem?_drop]at hk
        rw[show off+kk+(k-(min off r.rows.length+min kk ys.length))=k by omega]at hk
        have lj:=(List.getElem?_eq_some_iff.1 hk).1
        have qq:(off+kk)*(m+1)<=k*(m+1):=Nat.mul_le_mul_right _ (by omega)
        rw[List.getElem?_append_right (by rw[List.length_append,yu];simp only[List.length_take,mT];omega)]
        rw[List.getElem?_drop,List.length_append,yu]
        simp only[List.length_take,mT]
        rw[show off*(m+1)+kk*(m+1)+(k*(m+1)+j-(min (off*(m+1)) cur.size+kk*(m+1)))=k*(m+1)+j by omega]
        have:=vI k j cs b hk hj
        rw[yp]at this;simpa using this)
    refine⟨goInt kk,_,ι,.inl (pZ ho ?_),P2,P1,.eP _ _ (.int _ _),fun _ _=>rfl⟩
    rw[ex,hu]
    have:=G4 (w:=w) (sT:=t2) (ty:=o.type) ht hi ⟨B.b,oo,none⟩ ⟨b,o2,none⟩ ys.length sc len cap _ (by rw[yu,QX,jD]) Sz dB
    rw[QX]at this
    exact this
  ·simp at hv
 ·simp at hv
end
end Go.Proofs.YtgoelphibofcmaaGreat.V

namespace Go.Proofs.YtgoelphibofcmaaGreat.V
open Go.RowKit
variable {P:Program} {w w':World} {D D' D2:Nat->Prop} {ι ι' ι2:Names}
section
variable {g:Rows} {hs:Nat}
theorem gD:∀{n:Nat} {l r:List AV},cL g n l=some r->r.length=l.length/\∀(j:Nat) (b:AV),r[j]? =some b->∃a,l[j]? =some a/\fz g n a=some b
 |n,[],r,h=>by
  rw[cL]at h;simp at h;subst h;simp
 |n,a::l,r,h=>by
  rw[cL]at h
  split at h
  ·rename_i b hb
   simp only[Option.map_eq_some_iff]at h
   obtain⟨r',hr,rfl⟩:=h
   obtain⟨h1,h2⟩:=gD hr
   refine⟨by simp[h1],fun j c hj=>?_⟩
   cases j with
   |zero=>simp at hj;subst hj;exact⟨a,rfl,hb⟩
   |succ j=>simp at hj ⊢;exact h2 j c hj
  ·simp at h
theorem vC:∀{n:Nat} {l r:List (List AV)},dV g n l=some r->r.length=l.length/\∀(j:Nat) (b:List AV),r[j]? =some b->∃a,l[j]? =some a/\cL g n a=some b
 |n,[],r,h=>by
  rw[dV]at h;simp at h;subst h;simp
 |n,a::l,r,h=>by
  rw[dV]at h
  split at h
  ·rename_i b hb
   simp only[Option.map_eq_some_iff]at h
   obtain⟨r',hr,rfl⟩:=h
   obtain⟨h1,h2⟩:=vC hr
   refine⟨by simp[h1],fun j c hj=>?_⟩
   cases j with
   |zero=>simp at hj;subst hj;exact⟨a,rfl,hb⟩
   |succ j=>simp at hj ⊢;exact h2 j c hj
  ·simp at h
theorem rj (hD:∀b,D b->D2 b) (xn:∀id row,g id=some row->row.w=true->∃B,ι id=some B/\gI P w D ι B row/\D2 B.b):∀(n:Nat) (a:AV) (u:Value) (r:AV),cE P w D ι a u->fz g n a=some r->cE P w D2 ι2 r u/\(a.cell=true->jF P w D2 r u/\r.cell=true):=by
 intro n
 induction n with
 |zero=>intro a u r _ h;rw[fz]at h;simp at h
 |succ n ih=>
  intro a u r hr h
  have both:∀{r:AV},jF P w D2 r u->r.cell=true->cE P w D2 ι2 r u/\(a.cell=true->jF P w D2 r u/\r.cell=true):=fun h1 h2=>⟨.eP _ _ h1,fun _=>⟨h1,h2⟩⟩
  cases a with
  |map id m=>rw[fz]at h;cases h
  |re id=>rw[fz]at h;cases h
  |own id off len=>
   rw[fz]at h
   split at h
   ·rename_i row hg
    split at h
    ·rename_i hw
     split at h
     ·rename_i hle
      simp only[Option.map_eq_some_iff]at h
      obtain⟨rows,rn,rfl⟩:=h
      obtain⟨B,hB,R,NU⟩:=xn id row hg hw
      obtain⟨o,cap,B',rfl,dC,h1,h2,h3,h4,hk⟩:=iQ hr
      rw[hB]at dC;injection dC with dC;subst dC
      replace R:=R.row hk
      obtain⟨l1,l2⟩:=vC rn
      have hlen:rows.length=len:=by rw[l1];simp;omega
      by_cases h0:rows=[]
      ·subst h0
       simp at hlen;subst hlen
       exact both (.AP _ _ h4) rfl
      ·have hlp:0<len:=by rw[<-hlen];exact List.length_pos_iff.2 h0
       have ho:o=off*B.sz:=by rcases h2 with h2|h2<;>omega
       have src:∀i cs,rows[i]? =some cs->∃c0,row.rows[off+i]? =some c0/\cL g n c0=some cs:=fun i cs hi=>by
        obtain⟨c0,jI,hf⟩:=l2 i cs hi
        rw[List.getElem?_take]at jI
        split at jI
        ·rw[List.getElem?_drop]at jI;exact⟨c0,jI,hf⟩
        ·simp at jI
       have cell:∀i j,i<len->j<row.sz->∃c0 a0 v,row.rows[off+i]? =some c0/\c0[j]? =some a0/\w.cell? ⟨B.b,o+(i*row.sz+j),none⟩=some v/\cE P w D ι a0 v:=fun i j hi hj=>by
        have qN:off+i<row.rows.length:=by omega
        have e1:=List.getElem?_eq_getElem qN
        have KA:j<row.rows[off+i].length:=by rw[R.len _ (List.getElem_mem qN)];exact hj
        obtain⟨v,hv,lG⟩:=R.at_ _ _ _ _ e1 (List.getElem?_eq_getElem KA)
        refine⟨_,_,v,e1,List.getElem?_eq_getElem KA,?_,lG⟩
        rw[ho,R.sz,<-hv]
        congr 2
        rw[Nat.add_mul];omega
       refine both (.sl rows B.b o len cap row.sz (fun i j=>(w.cell? ⟨B.b,o+(i*row.sz+j),none⟩).getD undef) hlen h1 h4 NU (fun cs dw=>?_) (fun cs dw b hb=>?_) (fun i j hi hj=>?_) (fun i j cs b hi hj=>?_)) rfl
       ·obtain⟨i,hi,rfl⟩:=List.getElem_of_mem dw
        obtain⟨c0,jI,hf⟩:=src i _ (List.getElem?_eq_getElem hi)
        rw[(gD hf).1];exact R.len c0 (List.mem_of_getElem? jI)
       ·obtain⟨i,hi,rfl⟩:=List.getElem_of_mem dw
        obtain⟨c0,jI,hf⟩:=src i _ (List.getElem?_eq_getElem hi)
        obtain⟨j,hj,rfl⟩:=List.getElem_of_mem hb
        obtain⟨a0,lg,IH⟩:=(gD hf).2 j _ (List.getElem?_eq_getElem hj)
        obtain⟨v,_,lG⟩:=R.at_ _ _ _ _ jI lg
        exact((ih _ _ _ lG IH).2 (R.flat c0 (List.mem_of_getElem? jI) a0 (List.mem_of_getElem? lg))).2
       ·obtain⟨c0,a0,v,_,_,hv,_⟩:=cell i j hi hj
        simp only[hv,Option.getD_some]
       ·obtain⟨c0,jI,hf⟩:=src i cs hi
        obtain⟨a0,lg,IH⟩:=(gD hf).2 j b hj
        have mb:i<len:=by rw[<-hlen];exact(List.getElem?_eq_some_iff.1 hi).1
        have gR:j<row.sz:=by rw[<-R.len c0 (List.mem_of_getElem? jI)];exact(List.getElem?_eq_some_iff.1 lg).1
        obtain⟨c1,a1,v,e1,e2,hv,lG⟩:=cell i j mb gR
        rw[jI]at e1;injection e1 with e1;subst e1
        rw[lg]at e2;injection e2 with e2;subst e2
        simp only[hv,Option.getD_some]
        exact((ih _ _ _ lG IH).2 (R.flat c0 (List.mem_of_getElem? jI) a0 (List.mem_of_getElem? lg))).1
     ·simp at h
    ·simp at h
   ·simp at h
  |ptr id i off=>
   rw[fz]at h
   split at h
   ·rename_i row hg
    split at h
    ·rename_i hw
     split at h
     ·rename_i c0 jI
      simp only[Option.map_eq_some_iff]at h
      obtain⟨cs,dw,rfl⟩:=h
      obtain⟨B,hB,R,NU⟩:=xn id row hg hw
      obtain⟨B',rfl,dC,hk⟩:=iy hr
      rw[hB]at dC;injection dC with dC;subst dC
      replace R:=R.row hk
      obtain⟨l1,l2⟩:=gD dw
      have at_:∀j b,cs[j]? =some b->∃a0 v,w.cell? ⟨B.b,i*B.sz+off+j,none⟩=some v/\cE P w D ι a0 v/\a0.cell=true/\fz g n a0=some b:=fun j b hj=>by
       obtain⟨a0,lg,hf⟩:=l2 j b hj
       rw[List.getElem?_drop]at lg
       obtain⟨v,hv,lG⟩:=R.at_ _ _ _ _ jI lg
       refine⟨a0,v,?_,lG,R.flat c0 (List.mem_of_getElem? jI) a0 (List.mem_of_getElem? lg),hf⟩
       rw[R.sz,Nat.add_assoc];exact hv
      refine both (.cQ cs B.b _ (fun j=>(w.cell? ⟨B.b,i*B.sz+off+j,none⟩).getD undef) NU (fun b hb=>?_) (fun j hj=>?_) (fun j b hj=>?_)) rfl
      ·obtain⟨j,hj,rfl⟩:=List.getElem_of_mem hb
       obtain⟨a0,v,_,lG,hc,hf⟩:=at_ j _ (List.getElem?_eq_getElem hj)
       exact((ih _ _ _ lG hf).2 hc).2
      ·obtain⟨a0,v,hv,_⟩:=at_ j _ (List.getElem?_eq_getElem hj)
       simp only[hv,Option.getD_some]
      ·obtain⟨a0,v,hv,lG,hc,hf⟩:=at_ j b hj
       simp only[hv,Option.getD_some]
       exact((ih _ _ _ lG hf).2 hc).1
     ·simp at h
    ·simp at h
   ·simp at h
  |agg cs=>
   rw[fz]at h
   simp only[Option.map_eq_some_iff]at h
   obtain⟨r',nT,rfl⟩:=h
   obtain⟨vs,f,rfl,h1,h2,h3,h4⟩:=iP hr
   obtain⟨l1,l2⟩:=gD nT
   have hI:jF P w D2 (.agg r') (.agg vs):=.agg r' vs f (by rw[h1,l1]) (fun b hb=>by
    obtain⟨j,hj,rfl⟩:=List.getElem_of_mem hb
    obtain⟨a0,lg,hf⟩:=l2 j _ (List.getElem?_eq_getElem hj)
    exact((ih _ _ _ (h4 j a0 lg) hf).2 (h2 a0 (List.mem_of_getElem? lg))).2) (fun j hj=>h3 j (by rw[<-l1];exact hj)) (fun j b hj=>by
    obtain⟨a0,lg,hf⟩:=l2 j b hj
    exact((ih _ _ _ (h4 j a0 lg) hf).2 (h2 a0 (List.mem_of_getElem? lg))).1)
   exact⟨.eP _ _ hI,fun hc=>by simp[AV.cell]at hc⟩
  |gP cs=>
   rw[fz]at h
   simp only[Option.map_eq_some_iff]at h
   obtain⟨r',nT,rfl⟩:=h
   obtain⟨vs,f,rfl,h1,h3,h4⟩:=uF hr
   obtain⟨l1,l2⟩:=gD nT
   exact⟨.gP r' vs f (by rw[h1,l1]) (fun j hj=>h3 j (by rw[<-l1];exact hj)) (fun j b hj=>by
    obtain⟨a0,lg,hf⟩:=l2 j b hj
    exact(ih _ _ _ (h4 j a0 lg) hf).1),fun hc=>by simp[AV.cell]at hc⟩
  |fn f cH=>
   rw[fz]at h
   split at h
   ·rename_i dJ
    simp only[Option.map_eq_some_iff]at h
    obtain⟨r',nT,rfl⟩:=h
    obtain⟨vs,q,rfl,h0,h1,h3,h4⟩:=Ae hr
    obtain⟨l1,l2⟩:=gD nT
    exact both (.fn f r' vs q h0 (by rw[h1,l1]) (fun j hj=>h3 j (by rw[<-l1];exact hj)) (fun j b hj=>by
     obtain⟨a0,lg,hf⟩:=l2 j b hj
     exact((ih _ _ _ (h4 j a0 lg) hf).2 (List.all_eq_true.1 dJ a0 (List.mem_of_getElem? lg))).1)) rfl
   ·simp at h
  |int k m=>rw[fz]at h<;>(try simp at h)<;>(try subst h)<;>(try(rw[dr hr];exact⟨.eP _ _ (.int _ _),fun _=>⟨.int _ _,rfl⟩⟩))<;>(try(intros;simp_all))
  |bool b=>rw[fz]at h<;>(try simp at h)<;>(try subst h)<;>(try(rw[e9 hr];exact⟨.eP _ _ (.bool _),fun _=>⟨.bool _,rfl⟩⟩))<;>(try(intros;simp_all))
  |str b=>rw[fz]at h<;>(try simp at h)<;>(try subst h)<;>(try(rw[fC hr];exact⟨.eP _ _ (.str _),fun _=>⟨.str _,rfl⟩⟩))<;>(try(intros;simp_all))
  |cC=>rw[fz]at h<;>(try simp at h)<;>(try subst h)<;>(try(rw[j6 hr];exact⟨.eP _ _ .cC,fun _=>⟨.cC,rfl⟩⟩))<;>(try(intros;simp_all))
  |iU=>rw[fz]at h<;>(try simp at h)<;>(try subst h)<;>(try(rw[wE hr];exact⟨.eP _ _ .iU,fun _=>⟨.iU,rfl⟩⟩))<;>(try(intros;simp_all))
  |ji=>rw[fz]at h<;>(try simp at h)<;>(try subst h)<;>(try(rw[Cp hr];exact⟨.eP _ _ .ji,fun _=>⟨.ji,rfl⟩⟩))<;>(try(intros;simp_all))
  |sQ f cH=>rw[fz]at h<;>(try simp at h)<;>(try(intros;simp_all))
  |gN=>rw[fz]at h<;>(try simp at h)<;>(try subst h)<;>(try(cases hr with|eP _ _ hr=>exact both (hr.frame (fun _ _=>rfl) hD) rfl))<;>(try(intros;simp_all))
  |sl rows=>rw[fz]at h<;>(try simp at h)<;>(try subst h)<;>(try(cases hr with|eP _ _ hr=>exact both (hr.frame (fun _ _=>rfl) hD) rfl))<;>(try(intros;simp_all))
  |cQ cs=>rw[fz]at h<;>(try simp at h)<;>(try subst h)<;>(try(cases hr with|eP _ _ hr=>exact both (hr.frame (fun _ _=>rfl) hD) rfl))<;>(try(intros;simp_all))
theorem iS:∀{n:Nat} {l r:List AV},eb g n l=some r->r.length=l.length/\∀(j:Nat) (b:AV),r[j]? =some b->∃a,l[j]? =some a/\gp g n a=some b
 |n,[],r,h=>by
  rw[eb]at h;simp at h;subst h;simp
 |n,a::l,r,h=>by
  rw[eb]at h
  split at h
  ·rename_i b hb
   simp only[Option.map_eq_some_iff]at h
   obtain⟨r',hr,rfl⟩:=h
   obtain⟨h1,h2⟩:=iS hr
   refine⟨by simp[h1],fun j c hj=>?_⟩
   cases j with
   |zero=>simp at hj;subst hj;exact⟨a,rfl,hb⟩
   |succ j=>simp at hj ⊢;exact h2 j c hj
  ·simp at h
theorem tt:∀{n:Nat} {l r:List (List AV)},gY g n l=some r->r.length=l.length/\∀(j:Nat) (b:List AV),r[j]? =some b->∃a,l[j]? =some a/\eb g n a=some b
 |n,[],r,h=>by
  rw[gY]at h;simp at h;subst h;simp
 |n,a::l,r,h=>by
  rw[gY]at h
  split at h
  ·rename_i b hb
   simp only[Option.map_eq_some_iff]at h
   obtain⟨r',hr,rfl⟩:=h
   obtain⟨h1,h2⟩:=tt hr
   refine⟨by simp[h1],fun j c hj=>?_⟩
   cases j with
   |zero=>simp at hj;subst hj;exact⟨a,rfl,hb⟩
   |succ j=>simp at hj ⊢;exact h2 j c hj
  ·simp at h
theorem Ge (xn:∀id row,g id=some row->row.w=true->∃B,ι id=some B/\gI P w D ι B row/\D2 B.b):∀(n:Nat) (a:AV) (u:Value) (r:AV),cE P w D ι a u->gp g n a=some r->cE P w D2 ι2 r u/\(a.cell=true->jF P w D2 r u/\r.cell=true):=by
 intro n
 induction n with
 |zero=>intro a u r _ h;rw[gp]at h;simp at h
 |succ n ih=>
  intro a u r hr h
  have both:∀{r:AV},jF P w D2 r u->r.cell=true->cE P w D2 ι2 r u/\(a.cell=true->jF P w D2 r u/\r.cell=true):=fun h1 h2=>⟨.eP _ _ h1,fun _=>⟨h1,h2⟩⟩
  cases a with
  |map id m=>rw[gp]at h<;>simp_all
  |re id=>rw[gp]at h<;>simp_all
  |own id off len=>
   rw[gp]at h
   split at h
   ·rename_i row hg
    split at h
    ·rename_i hw
     split at h
     ·rename_i hle
      simp only[Option.map_eq_some_iff]at h
      obtain⟨rows,rn,rfl⟩:=h
      obtain⟨B,hB,R,NU⟩:=xn id row hg hw
      obtain⟨o,cap,B',rfl,dC,h1,h2,h3,h4,hk⟩:=iQ hr
      rw[hB]at dC;injection dC with dC;subst dC
      replace R:=R.row hk
      obtain⟨l1,l2⟩:=tt rn
      have hlen:rows.length=len:=by rw[l1];simp;omega
      by_cases h0:rows=[]
      ·subst h0
       simp at hlen;subst hlen
       exact both (.AP _ _ h4) rfl
      ·have hlp:0<len:=by rw[<-hlen];exact List.length_pos_iff.2 h0
       have ho:o=off*B.sz:=by rcases h2 with h2|h2<;>omega
       have src:∀i cs,rows[i]? =some cs->∃c0,row.rows[off+i]? =some c0/\eb g n c0=some cs:=fun i cs hi=>by
        obtain⟨c0,jI,hf⟩:=l2 i cs hi
        rw[List.getElem?_take]at jI
        split at jI
        ·rw[List.getElem?_drop]at jI;exact⟨c0,jI,hf⟩
        ·simp at jI
       have cell:∀i j,i<len->j<row.sz->∃c0 a0 v,row.rows[off+i]? =some c0/\c0[j]? =some a0/\w.cell? ⟨B.b,o+(i*row.sz+j),none⟩=some v/\cE P w D ι a0 v:=fun i j hi hj=>by
        have qN:off+i<row.rows.length:=by omega
        have e1:=List.getElem?_eq_getElem qN
        have KA:j<row.rows[off+i].length:=by rw[R.len _ (List.getElem_mem qN)];exact hj
        obtain⟨v,hv,lG⟩:=R.at_ _ _ _ _ e1 (List.getElem?_eq_getElem KA)
        refine⟨_,_,v,e1,List.getElem?_eq_getElem KA,?_,lG⟩
        rw[ho,R.sz,<-hv]
        congr 2
        rw[Nat.add_mul];omega
       refine both (.sl rows B.b o len cap row.sz (fun i j=>(w.cell? ⟨B.b,o+(i*row.sz+j),none⟩).getD undef) hlen h1 h4 NU (fun cs dw=>?_) (fun cs dw b hb=>?_) (fun i j hi hj=>?_) (fun i j cs b hi hj=>?_)) rfl
       ·obtain⟨i,hi,rfl⟩:=List.getElem_of_mem dw
        obtain⟨c0,jI,hf⟩:=src i _ (List.getElem?_eq_getElem hi)
        rw[(iS hf).1];exact R.len c0 (List.mem_of_getElem? jI)
       ·obtain⟨i,hi,rfl⟩:=List.getElem_of_mem dw
        obtain⟨c0,jI,hf⟩:=src i _ (List.getElem?_eq_getElem hi)
        obtain⟨j,hj,rfl⟩:=List.getElem_of_mem hb
        obtain⟨a0,lg,IH⟩:=(iS hf).2 j _ (List.getElem?_eq_getElem hj)
        obtain⟨v,_,lG⟩:=R.at_ _ _ _ _ jI lg
        exact((ih _ _ _ lG IH).2 (R.flat c0 (List.mem_of_getElem? jI) a0 (List.mem_of_getElem? lg))).2
       ·obtain⟨c0,a0,v,_,_,hv,_⟩:=cell i j hi hj
        simp only[hv,Option.getD_some]
       ·obtain⟨c0,jI,hf⟩:=src i cs hi
        obtain⟨a0,lg,IH⟩:=(iS hf).2 j b hj
        have mb:i<len:=by rw[<-hlen];exact(List.getElem?_eq_some_iff.1 hi).1
        have gR:j<row.sz:=by rw[<-R.len c0 (List.mem_of_getElem? jI)];exact(List.getElem?_eq_some_iff.1 lg).1
        obtain⟨c1,a1,v,e1,e2,hv,lG⟩:=cell i j mb gR
        rw[jI]at e1;injection e1 with e1;subst e1
        rw[lg]at e2;injection e2 with e2;subst e2
        simp only[hv,Option.getD_some]
        exact((ih _ _ _ lG IH).2 (R.flat c0 (List.mem_of_getElem? jI) a0 (List.mem_of_getElem? lg))).1
     ·simp at h
    ·simp at h
   ·simp at h
  |ptr id i off=>
   rw[gp]at h
   split at h
   ·rename_i row hg
    split at h
    ·rename_i hw
     split at h
     ·rename_i c0 jI
      simp only[Option.map_eq_some_iff]at h
      obtain⟨cs,dw,rfl⟩:=h
      obtain⟨B,hB,R,NU⟩:=xn id row hg hw
      obtain⟨B',rfl,dC,hk⟩:=iy hr
      rw[hB]at dC;injection dC with dC;subst dC
      replace R:=R.row hk
      obtain⟨l1,l2⟩:=iS dw
      have at_:∀j b,cs[j]? =some b->∃a0 v,w.cell? ⟨B.b,i*B.sz+off+j,none⟩=some v/\cE P w D ι a0 v/\a0.cell=true/\gp g n a0=some b:=fun j b hj=>by
       obtain⟨a0,lg,hf⟩:=l2 j b hj
       rw[List.getElem?_drop]at lg
       obtain⟨v,hv,lG⟩:=R.at_ _ _ _ _ jI lg
       refine⟨a0,v,?_,lG,R.flat c0 (List.mem_of_getElem? jI) a0 (List.mem_of_getElem? lg),hf⟩
       rw[R.sz,Nat.add_assoc];exact hv
      refine both (.cQ cs B.b _ (fun j=>(w.cell? ⟨B.b,i*B.sz+off+j,none⟩).getD undef) NU (fun b hb=>?_) (fun j hj=>?_) (fun j b hj=>?_)) rfl
      ·obtain⟨j,hj,rfl⟩:=List.getElem_of_mem hb
       obtain⟨a0,v,_,lG,hc,hf⟩:=at_ j _ (List.getElem?_eq_getElem hj)
       exact((ih _ _ _ lG hf).2 hc).2
      ·obtain⟨a0,v,hv,_⟩:=at_ j _ (List.getElem?_eq_getElem hj)
       simp only[hv,Option.getD_some]
      ·obtain⟨a0,v,hv,lG,hc,hf⟩:=at_ j b hj
       simp only[hv,Option.getD_some]
       exact((ih _ _ _ lG hf).2 hc).1
     ·simp at h
    ·simp at h
   ·simp at h
  |agg cs=>
   rw[gp]at h
   simp only[Option.map_eq_some_iff]at h
   obtain⟨r',nT,rfl⟩:=h
   obtain⟨vs,f,rfl,h1,h2,h3,h4⟩:=iP hr
   obtain⟨l1,l2⟩:=iS nT
   have hI:jF P w D2 (.agg r') (.agg vs):=.agg r' vs f (by rw[h1,l1]) (fun b hb=>by
    obtain⟨j,hj,rfl⟩:=List.getElem_of_mem hb
    obtain⟨a0,lg,hf⟩:=l2 j _ (List.getElem?_eq_getElem hj)
    exact((ih _ _ _ (h4 j a0 lg) hf).2 (h2 a0 (List.mem_of_getElem? lg))).2) (fun j hj=>h3 j (by rw[<-l1];exact hj)) (fun j b hj=>by
    obtain⟨a0,lg,hf⟩:=l2 j b hj
    exact((ih _ _ _ (h4 j a0 lg) hf).2 (h2 a0 (List.mem_of_getElem? lg))).1)
   exact⟨.eP _ _ hI,fun hc=>by simp[AV.cell]at hc⟩
  |gP cs=>
   rw[gp]at h
   simp only[Option.map_eq_some_iff]at h
   obtain⟨r',nT,rfl⟩:=h
   obtain⟨vs,f,rfl,h1,h3,h4⟩:=uF hr
   obtain⟨l1,l2⟩:=iS nT
   exact⟨.gP r' vs f (by rw[h1,l1]) (fun j hj=>h3 j (by rw[<-l1];exact hj)) (fun j b hj=>by
    obtain⟨a0,lg,hf⟩:=l2 j b hj
    exact(ih _ _ _ (h4 j a0 lg) hf).1),fun hc=>by simp[AV.cell]at hc⟩
  |fn f cH=>rw[gp]at h<;>(try simp at h)<;>(try(intros;simp_all))
  |int k m=>rw[gp]at h<;>(try simp at h)<;>(try subst h)<;>(try(rw[dr hr];exact⟨.eP _ _ (.int _ _),fun _=>⟨.int _ _,rfl⟩⟩))<;>(try(intros;simp_all))
  |bool b=>rw[gp]at h<;>(try simp at h)<;>(try subst h)<;>(try(rw[e9 hr];exact⟨.eP _ _ (.bool _),fun _=>⟨.bool _,rfl⟩⟩))<;>(try(intros;simp_all))
  |str b=>rw[gp]at h<;>(try simp at h)<;>(try subst h)<;>(try(rw[fC hr];exact⟨.eP _ _ (.str _),fun _=>⟨.str _,rfl⟩⟩))<;>(try(intros;simp_all))
  |cC=>rw[gp]at h<;>(try simp at h)<;>(try subst h)<;>(try(rw[j6 hr];exact⟨.eP _ _ .cC,fun _=>⟨.cC,rfl⟩⟩))<;>(try(intros;simp_all))
  |iU=>rw[gp]at h<;>(try simp at h)<;>(try subst h)<;>(try(rw[wE hr];exact⟨.eP _ _ .iU,fun _=>⟨.iU,rfl⟩⟩))<;>(try(intros;simp_all))
  |ji=>rw[gp]at h<;>(try simp at h)<;>(try subst h)<;>(try(rw[Cp hr];exact⟨.eP _ _ .ji,fun _=>⟨.ji,rfl⟩⟩))<;>(try(intros;simp_all))
  |sQ f cH=>rw[gp]at h<;>(try simp at h)<;>(try(intros;simp_all))
  |gN=>rw[gp]at h<;>(try simp at h)<;>(try subst h)<;>(try(cases hr with|eP _ _ hr=>cases hr;exact both .gN rfl))<;>(try(intros;simp_all))
  |sl rows=>rw[gp]at h<;>(try simp at h)<;>(try(intros;simp_all))
  |cQ cs=>rw[gp]at h<;>(try simp at h)<;>(try(intros;simp_all))
end
end Go.Proofs.YtgoelphibofcmaaGreat.V

namespace Go.Proofs.YtgoelphibofcmaaGreat.V
open Go.RowKit
variable {P:Program} {w w':World} {D D':Nat->Prop} {ι ι':Names}
section
variable {g:Rows} {hs:Nat} {env:Env} {a:Act} {o:Oper} {id:Id} {v:AV}
theorem gn.Hm (S:gn P hs D ι g w) {i:Id} {r r':Row} {B:sa} {ob:Obj} (hid:g i=some r) (hw:r.w=true) (hB:ι i=some B)
  (hR:(∀a v,cE P w D ι a v->cE P {w with heap:=w.heap.setIfInBounds B.b ob} D ι a v)->(w.heap.setIfInBounds B.b ob)[B.b]? =some ob->gI P {w with heap:=w.heap.setIfInBounds B.b ob} D ι B r'):
  gn P hs D ι (bJ g i r') {w with heap:=w.heap.setIfInBounds B.b ob}/\Step hs D ι w D ι {w with heap:=w.heap.setIfInBounds B.b ob}:=by
 obtain⟨B0,Bs,R,jM,mc⟩:=S.row i r hid
 rw[hB]at Bs;injection Bs with Bs;subst Bs
 have other:∀b,b≠B.b->(w.heap.setIfInBounds B.b ob)[b]? =w.heap[b]? :=fun b hb=>by simp[Ne.symm hb]
 have hd:∀b,D b->(w.heap.setIfInBounds B.b ob)[b]? =w.heap[b]? :=fun b hb=>other b (by rintro rfl;exact mc hw hb)
 have hr:∀a v,cE P w D ι a v->cE P {w with heap:=w.heap.setIfInBounds B.b ob} D ι a v:=fun a v h=>h.frame hd (fun _ h=>h) (fun _ _ h=>h)
 refine⟨⟨by simpa using S.lo,fun b hb=>by simpa using S.dead b hb,fun j q h=>?_,fun j j' q q' C C' h h' IW hC ub he=>?_⟩,⟨⟨rfl,rfl,rfl,by simp,fun k hk=>other k (by have:=jM hw;omega)⟩,hd,fun _ h=>h,fun _ _ h=>h,fun _ h=>.inl h⟩⟩
 ·unfold bJ at h
  split at h
  ·rename_i e
   subst e
   injection h with h;subst h
   exact⟨B,hB,hR hr (by simp[R.lt]),fun _=>jM hw,fun _=>mc hw⟩
  ·rename_i e
   obtain⟨C,hC,RC,k1,k2⟩:=S.row j q h
   refine⟨C,hC,RC.frame (other C.b (fun MJ=>e ?_)) hr,k1,k2⟩
   exact(S.inj i j r q B C hid h hw hB hC MJ.symm).symm
 ·unfold bJ at h h'
  have get:∀j p,(if j=i then some r' else g j)=some p->∃p0,g j=some p0/\(p.w=true->p0.w=true):=fun j p hp=>by
   split at hp
   ·rename_i e;subst e;injection hp with hp;subst hp;exact⟨r,hid,fun _=>hw⟩
   ·exact⟨p,hp,fun h=>h⟩
  obtain⟨p,hp,PQ⟩:=get _ _ h
  obtain⟨p',Om,_⟩:=get _ _ h'
  exact S.inj j j' p p' C C' hp Om (PQ IW) hC ub he
theorem E6 {s:TS} {x y:AV} {u v:Value} (he:gq s x y=some true) (hx:cE P w D ι x u) (hy:cE P w D ι y v):u=v/\∀n,Instr.sameBits n u v=true:=by
 unfold gq at he
 split at he
 ·split at he
  ·rename_i hk
   subst hk
   simp at he;subst he
   rw[dr hx,dr hy]
   exact⟨rfl,fun n=>by cases n<;>simp[Instr.sameBits]⟩
  ·cases he
 ·simp at he;subst he
  rw[e9 hx,e9 hy]
  exact⟨rfl,fun n=>by cases n<;>simp[Instr.sameBits]⟩
 ·simp at he;subst he
  rw[fC hx,fC hy]
  exact⟨rfl,fun n=>by cases n<;>simp[Instr.sameBits,HZ]⟩
 ·cases he
theorem Bg {n:Nat}:∀{ts:List TS} {xs ys:List AV} {vs us:List Value},fh ts xs ys=some true->vs.length=xs.length->us.length=ys.length->(∀(j:Nat) (a:AV),xs[j]? =some a->∃u,vs[j]? =some u/\cE P w D ι a u)->(∀(j:Nat) (a:AV),ys[j]? =some a->∃u,us[j]? =some u/\cE P w D ι a u)->
  us.length=vs.length/\(us.zip vs).all (fun p=>Instr.sameBits n p.1 p.2)=true
 |[],[],[],vs,us,_,h1,h2,_,_=>by
  cases vs<;>cases us<;>simp_all
 |[],x::xs,ys,vs,us,h,_,_,_,_=>by simp[fh]at h
 |[],[],y::ys,vs,us,h,_,_,_,_=>by simp[fh]at h
 |t::ts,[],ys,vs,us,h,_,_,_,_=>by simp[fh]at h
 |t::ts,x::xs,[],vs,us,h,_,_,_,_=>by simp[fh]at h
 |t::ts,x::xs,y::ys,[],us,h,h1,_,_,_=>by simp at h1
 |t::ts,x::xs,y::ys,v::vs,[],h,_,h2,_,_=>by simp at h2
 |t::ts,x::xs,y::ys,v::vs,u::us,h,h1,h2,hx,hy=>by
  unfold fh at h
  split at h
  ·rename_i a b ha hb
   simp only[Option.some.injEq,Bool.and_eq_true]at h
   obtain⟨rfl,rfl⟩:=h
   obtain⟨v',nQ,rv⟩:=hx 0 x rfl
   obtain⟨u',Fo,ru⟩:=hy 0 y rfl
   simp at nQ Fo;subst nQ;subst Fo
   obtain⟨e1,e2⟩:=E6 ha rv ru
   obtain⟨q1,q2⟩:=Bg (n:=n) hb (by simpa using h1) (by simpa using h2) (fun j a hj=>by simpa using hx (j+1) a (by simpa using hj)) (fun j a hj=>by simpa using hy (j+1) a (by simpa using hj))
   refine⟨by simp[q1],?_⟩
   simp only[List.zip_cons_cons,List.all_cons,q2,Bool.and_true]
   rw[<-e1]
   have:=e2 n
   rw[<-e1]at this
   exact this
  ·cases h
theorem B8 {m:MK} {key:List AV}:∀{rows:List (List AV)} {i j:Nat},ga m key rows i=some (some j)->∃cs,i<=j/\rows[j-i]? =some cs/\fh m.ts key (cs.take m.ks)=some true
 |[],i,j,h=>by simp[ga]at h
 |cs::rows,i,j,h=>by
  unfold ga at h
  split at h
  ·rename_i hq
   simp at h;subst h
   exact⟨cs,Nat.le_refl _,by simp,hq⟩
  ·obtain⟨c,h1,h2,h3⟩:=B8 h
   exact⟨c,by omega,by rw[show j-i=(j-(i+1))+1 by omega];simpa using h2,h3⟩
  ·cases h
theorem wc {m:MK} {k:AV} {rows:List (List AV)} {fi:Option Nat} (h:fM m k rows=some fi):k.isAgg=m.ka/\k.cells.length=m.ks/\(k.cells.all AV.cell=true)/\ga m k.cells rows 0=some fi:=by
 unfold fM at h
 split at h
 ·rename_i hc;exact⟨hc.1,hc.2.1,hc.2.2,h⟩
 ·cases h
theorem JB {m:MK} {k y:AV} (h1:k.isAgg=m.ka) (h2:k.cells.length=m.ks):part m.ka m.ks (k.cells++[y])=some k/\(k.cells++[y])[m.ks]? =some y:=by
 refine⟨?_,by rw[List.getElem?_append_right (by omega),h2,Nat.sub_self];rfl⟩
 cases hk:m.ka with
 |false=>
  rw[hk]at h1
  rw[vh h1];rfl
 |true=>
  rw[hk]at h1
  cases k<;>simp[AV.isAgg]at h1
  rename_i cs
  simp only[AV.cells]at h2 ⊢
  simp only[part,if_true]
  rw[if_pos (by simp;omega),<-h2,List.take_left']
  rfl
theorem stays {k:TypeId} {m:MK} (hK:EO P k m) {key kv:AV} {u yL:Value} {cs:List AV} (h1:key.isAgg=m.ka) (hr:cE P w D ι key u) (hp:part m.ka m.ks cs=some kv) (ho:cE P w D ι kv yL) (he:fh m.ts key.cells (cs.take m.ks)=some true):(Instr.keyThatStays yL u).run P w=.ok u w:=by
 have hs:Instr.sameBits 10000 yL u=true:=by
  rcases hK with⟨s,rfl,hs⟩|⟨fs,ts,rfl,rl,xE,dB,dJ⟩
  ·rw[vh h1]at he
   cases cs with
   |nil=>simp[part]at hp
   |cons c l=>
    simp[part]at hp;subst hp
    simp only[MK.ks,List.length_cons,List.length_nil,Nat.zero_add,List.take_succ_cons,List.take_zero,fh]at he
    cases hq:gq s key c with
    |none=>rw[hq]at he;simp at he
    |some b=>
     rw[hq]at he;simp at he;subst he
     obtain⟨e1,e2⟩:=E6 hq hr ho
     rw[<-e1]
     have:=e2 10000
     rwa [<-e1]at this
  ·cases key<;>simp[AV.isAgg]at h1
   rename_i ks
   simp only[part,if_true]at hp
   split at hp
   ·simp only[Option.some.injEq]at hp;subst hp
    obtain⟨vs,rfl,n1,r1⟩:=rN hr
    obtain⟨us,rfl,n2,r2⟩:=rN ho
    obtain⟨q1,q2⟩:=Bg (n:=9999) (vs:=vs.toList) (us:=us.toList) he (by simpa[AV.cells]using n1) (by simpa using n2) (fun j a hj=>by simpa using r1 j a hj) (fun j a hj=>by simpa using r2 j a hj)
    simp only[Instr.sameBits,Bool.and_eq_true,beq_iff_eq]
    exact⟨by simpa using q1,q2⟩
   ·cases hp
 simp[Instr.keyThatStays,hs]
theorem JS {es:Array MapEntry} {clock:Nat} (h:KM es clock) (k v:Value):KM (es.push ⟨k,v,clock⟩) (clock+1):=by
 refine⟨fun x hx=>?_,?_⟩
 ·simp only[Array.toList_push,List.mem_append,List.mem_singleton]at hx
  rcases hx with hx|rfl
  ·have:=h.1 x hx;omega
  ·exact Nat.lt_succ_self _
 ·simp only[Array.toList_push,List.map_append,List.map_cons,List.map_nil]
  refine List.nodup_append.2 ⟨h.2,by simp,fun a ha b hb=>?_⟩
  obtain⟨x,hx,rfl⟩:=List.mem_map.1 ha
  simp at hb;subst hb
  have:=h.1 x hx;omega
theorem Ev {es:Array MapEntry} {clock:Nat} (h:KM es clock) (j:Nat) (k v:Value):KM (es.modify j fun e=>{e with key:=k,val:=v}) clock:=by
 have e:(es.modify j fun e=>{e with key:=k,val:=v}).toList.map (·.born)=es.toList.map (·.born):=by
  refine List.ext_getElem? fun i=>?_
  simp only[List.getElem?_map,Array.getElem?_toList,Array.getElem?_modify]
  split
  ·cases es[i]? <;>rfl
  ·rfl
 refine⟨fun x hx=>?_,by rw[e];exact h.2⟩
 have hb:x.born∈(es.modify j fun e=>{e with key:=k,val:=v}).toList.map (·.born):=List.mem_map_of_mem hx
 rw[e]at hb
 obtain⟨y,hy,hyb⟩:=List.mem_map.1 hb
 rw[<-hyb];exact h.1 y hy
theorem G8 {es:Array MapEntry} {clock:Nat} (h:KM es clock) {j:Nat} (hj:j<es.size):KM (es.eraseIdxIfInBounds j) clock:=by
 have e:(es.eraseIdxIfInBounds j).toList=es.toList.eraseIdx j:=by
  unfold Array.eraseIdxIfInBounds
  rw[dif_pos hj,Array.toList_eraseIdx]
 refine⟨fun x hx=>h.1 x ((List.eraseIdx_sublist _ _).subset (by rwa [e]at hx)),?_⟩
 rw[e]
 exact((List.eraseIdx_sublist es.toList j).map (·.born)).nodup h.2
theorem Bm {k y:AV} (h1:k.cells.all AV.cell=true) (h2:y.cell=true):∀a∈k.cells++[y],a.cell=true:=fun a ha=>by
 rcases List.mem_append.1 ha with ha|ha
 ·exact List.all_eq_true.1 h1 a ha
 ·rw[List.mem_singleton.1 ha];exact h2
theorem NH {t:TypeId} {x k y:Operand} {m:MK} {z:K} {x' k' y':O} {g':Rows} (S:gn P hs D ι g w) (E:bQ P w D ι env a) (ho:o.op=.mapUpdate t x k y∨o.op=.insert t x k y) (hc:sq P t=some (m,z)) (hx:cO P x=some x') (hk:cO P k=some k') (hy:cO P y=some y')
  (hv:bK (.set m) [cK env x',cK env k',cK env y'] g=some g'):CZ P hs a o w D ι id .undef g':=by
 obtain⟨kt,e,i,zv,ht,hi,pV,Sy,hK⟩:=qY hc
 simp only[bK,Option.bind_eq_some_iff]at hv
 obtain⟨p,hp,fi,II,hv⟩:=hv
 split at hv
 ·rename_i hcond
  obtain⟨hw,hyc,_⟩:=hcond
  simp only[Option.some.injEq]at hv;subst hv
  obtain⟨B,hu,hg,hB,uy,es,clock,hb,ft,hlen,hM⟩:=zS S (dm E hx) hp
  have rk:=dm E hk
  have ry:=dm E hy
  obtain⟨Kx,res,hf,hF⟩:=vp (B:=B) hK rk ft hM II
  obtain⟨k1,k2,k3,k4⟩:=wc II
  obtain⟨B',dC,R,_⟩:=S.row p.1 p.2 hg
  rw[hB]at dC;injection dC with dC;subst dC
  obtain⟨pk1,pk2⟩:=JB (y:=cK env y') k1 k2
  have fb:(getObj B.b).run P w=.ok (.map es clock) w:=MapKept.run_getObj_map hb
  rcases hF with⟨rfl,rfl⟩|⟨j,en,rfl,he,rfl⟩
  ·have nP:=S.Hm (ob:=.map (es.push ⟨a.eval k,a.eval y,clock⟩) (clock+1)) (r':={p.2 with rows:=dW p.2.rows ((cK env k').cells++[cK env y']) none}) hg hw hB fun hr ke=>⟨R.sz,fun cs dw=>?_,fun xc=>(by rw[uy]at xc;cases xc),fun m' BC=>?_,fun c hc=>(by rw[uy]at hc;cases hc)⟩
   ·refine⟨undef,_,ι,.inr ⟨?_,rfl⟩,nP.2,nP.1,cE.undef,fun _ _=>rfl⟩
    rcases ho with ho|ho<;>
    ·simp only[execOp,ho,Instr.mapUpdate,hu,Sem.run_bind,run_underlying ht,Result.andThen_ok,fb,Kx,hf,MapKept.run_setObj_map _ hb,Sem.run_pure]
   ·rcases List.mem_append.1 dw with h|h
    ·exact R.flat cs h
    ·rw[List.mem_singleton.1 h];exact Bm k3 hyc
   ·rw[uy]at BC;simp only[Option.some.injEq,BK.map.injEq]at BC;subst BC
    refine⟨(R.map m uy).1,_,_,ke,by simp[dW,ft],⟨fun cs dw=>?_,JS hlen.2 _ _⟩,fun q cs hq=>?_⟩
    ·rcases List.mem_append.1 dw with h|h
     ·exact hlen.1 cs h
     ·rw[List.mem_singleton.1 h];simp[k2]
    ·rcases Nat.lt_or_ge q p.2.rows.length with dM|qq
     ·simp only[dW]at hq
      rw[List.getElem?_append_left dM]at hq
      obtain⟨en,kv,vv,q1,q2,q3,q4,q5⟩:=hM q cs hq
      exact⟨en,kv,vv,by rw[Array.getElem?_push_lt (by omega)];rw[Array.getElem?_eq_getElem (by omega)]at q1;simpa using q1,q2,q3,hr _ _ q4,hr _ _ q5⟩
     ·simp only[dW]at hq
      rw[List.getElem?_append_right qq]at hq
      have MU:q=p.2.rows.length:=by
       have:=(List.getElem?_eq_some_iff.1 hq).1
       simp at this;omega
      subst MU
      simp at hq;subst hq
      exact⟨⟨a.eval k,a.eval y,clock⟩,_,_,by rw[<-ft];simp,pk1,pk2,hr _ _ rk,hr _ _ ry⟩
  ·simp only[Nat.zero_add]at k4 II hf ⊢
   obtain⟨PD,_,K8,heq⟩:=B8 k4
   simp only[Nat.sub_zero]at K8
   obtain⟨Qo,kv,vv,q1,q2,_,q4,_⟩:=hM j PD K8
   have Hv:Qo=en:=by
    have h1:es.toList[j]? =some Qo:=by simpa using q1
    rw[he]at h1;injection h1 with h1;exact h1.symm
   subst Hv
   have dB:=stays (w:=w) hK k1 rk q2 q4 heq
   have nP:=S.Hm (ob:=.map (es.modify j fun e=>{e with key:=a.eval k,val:=a.eval y}) clock) (r':={p.2 with rows:=dW p.2.rows ((cK env k').cells++[cK env y']) (some j)}) hg hw hB fun hr ke=>⟨R.sz,fun cs dw=>?_,fun xc=>(by rw[uy]at xc;cases xc),fun m' BC=>?_,fun c hc=>(by rw[uy]at hc;cases hc)⟩
   ·refine⟨undef,_,ι,.inr ⟨?_,rfl⟩,nP.2,nP.1,cE.undef,fun _ _=>rfl⟩
    rcases ho with ho|ho<;>
    ·simp only[execOp,ho,Instr.mapUpdate,hu,Sem.run_bind,run_underlying ht,Result.andThen_ok,fb,Kx,hf,q1,Option.map_some,Option.getD_some,dB,MapKept.run_setObj_map _ hb,Sem.run_pure]
   ·rcases List.mem_or_eq_of_mem_set dw with h|h
    ·exact R.flat cs h
    ·rw[h];exact Bm k3 hyc
   ·rw[uy]at BC;simp only[Option.some.injEq,BK.map.injEq]at BC;subst BC
    have gR:=(List.getElem?_eq_some_iff.1 K8).1
    refine⟨(R.map m uy).1,_,_,ke,by simp[dW,ft],⟨fun cs dw=>?_,Ev hlen.2 _ _ _⟩,fun q cs hq=>?_⟩
    ·rcases List.mem_or_eq_of_mem_set dw with h|h
     ·exact hlen.1 cs h
     ·rw[h];simp[k2]
    ·simp only[dW,List.getElem?_set]at hq
     split at hq
     ·rename_i PJ
      subst PJ
      (try rw[if_pos gR]at hq)
      injection hq with hq;subst hq
      exact⟨{Qo with key:=a.eval k,val:=a.eval y},_,_,by rw[Array.getElem?_modify];simp[q1],pk1,pk2,hr _ _ rk,hr _ _ ry⟩
     ·rename_i PJ
      obtain⟨en,kv,vv,q1,q2,q3,q4,q5⟩:=hM q cs hq
      exact⟨en,kv,vv,by rw[Array.getElem?_modify];simp[PJ,q1],q2,q3,hr _ _ q4,hr _ _ q5⟩
 ·cases hv
theorem NG {t t':TypeId} {x k:Operand} {m:MK} {z:K} {x' k':O} {g':Rows} (S:gn P hs D ι g w) (E:bQ P w D ι env a) (ho:o.op=.call {callee:=.builtin .delete,args:= #[x,k],argTypes:= #[t,t']}) (hc:sq P t=some (m,z)) (hx:cO P x=some x') (hk:cO P k=some k')
  (hv:bK (.del m) [cK env x',cK env k'] g=some g'):CZ P hs a o w D ι id .undef g':=by
 obtain⟨kt,e,i,zv,ht,hi,pV,Sy,hK⟩:=qY hc
 simp only[bK,Option.bind_eq_some_iff]at hv
 obtain⟨p,hp,fi,II,hv⟩:=hv
 split at hv
 ·rename_i hw
  simp only[Option.some.injEq]at hv;subst hv
  obtain⟨B,hu,hg,hB,uy,es,clock,hb,ft,hlen,hM⟩:=zS S (dm E hx) hp
  have rk:=dm E hk
  obtain⟨Kx,res,hf,hF⟩:=vp (B:=B) hK rk ft hM II
  obtain⟨k1,k2,k3,k4⟩:=wc II
  obtain⟨B',dC,R,_⟩:=S.row p.1 p.2 hg
  rw[hB]at dC;injection dC with dC;subst dC
  have fb:(getObj B.b).run P w=.ok (.map es clock) w:=MapKept.run_getObj_map hb
  have go:∀ob,(Builtin.delete_ #[t,t'] o.type #[a.eval x,a.eval k]).run P w=.ok (.tuple #[]) {w with heap:=w.heap.setIfInBounds B.b ob}->(execOp a.eval o).run P w=.ok (.value undef) {w with heap:=w.heap.setIfInBounds B.b ob}:=fun ob h=>by
   simp only[execOp,ho,resolve,Sem.run_bind,Sem.run_pure,Result.andThen_ok,invoke,builtin,Array.map]
   simp[h,undef]
  rcases hF with⟨rfl,rfl⟩|⟨j,en,rfl,he,rfl⟩
  ·have nP:=S.Hm (ob:=.map es clock) (r':={p.2 with rows:=ea p.2.rows none}) hg hw hB fun hr ke=>⟨R.sz,R.flat,fun xc=>(by rw[uy]at xc;cases xc),fun m' BC=>?_,fun c hc=>(by rw[uy]at hc;cases hc)⟩
   ·refine⟨undef,_,ι,.inl (go _ ?_),nP.2,nP.1,cE.undef,fun _ _=>rfl⟩
    simp[Builtin.delete_,hu,run_underlying ht,fb,Kx,hf,MapKept.run_setObj_map _ hb]
   ·rw[uy]at BC;simp only[Option.some.injEq,BK.map.injEq]at BC;subst BC
    exact⟨(R.map m uy).1,_,_,ke,ft,hlen,fun q cs hq=>by
     obtain⟨en,kv,vv,q1,q2,q3,q4,q5⟩:=hM q cs hq
     exact⟨en,kv,vv,q1,q2,q3,hr _ _ q4,hr _ _ q5⟩⟩
  ·simp only[Nat.zero_add]at hf ⊢
   have gR:j<es.size:=by have:=(List.getElem?_eq_some_iff.1 he).1;simpa using this
   have nP:=S.Hm (ob:=.map (es.eraseIdxIfInBounds j) clock) (r':={p.2 with rows:=ea p.2.rows (some j)}) hg hw hB fun hr ke=>⟨R.sz,fun cs dw=>R.flat cs (List.mem_of_mem_eraseIdx dw),fun xc=>(by rw[uy]at xc;cases xc),fun m' BC=>?_,fun c hc=>(by rw[uy]at hc;cases hc)⟩
   ·refine⟨undef,_,ι,.inl (go _ ?_),nP.2,nP.1,cE.undef,fun _ _=>rfl⟩
    simp[Builtin.delete_,hu,run_underlying ht,fb,Kx,hf,MapKept.run_setObj_map _ hb]
   ·rw[uy]at BC;simp only[Option.some.injEq,BK.map.injEq]at BC;subst BC
    have QK:∀q,(es.eraseIdxIfInBounds j)[q]? =(es.toList.eraseIdx j)[q]? :=fun q=>by
     unfold Array.eraseIdxIfInBounds
     rw[dif_pos gR,<-Array.getElem?_toList,Array.toList_eraseIdx]
    refine⟨(R.map m uy).1,_,_,ke,by simp[ea,Array.eraseIdxIfInBounds,gR,List.length_eraseIdx,<-ft],⟨fun cs dw=>hlen.1 cs (List.mem_of_mem_eraseIdx dw),G8 hlen.2 gR⟩,fun q cs hq=>?_⟩
    simp only[ea,List.getElem?_eraseIdx]at hq
    split at hq
    ·rename_i dM
     obtain⟨en,kv,vv,q1,q2,q3,q4,q5⟩:=hM q cs hq
     exact⟨en,kv,vv,by rw[QK,List.getElem?_eraseIdx,if_pos dM];simpa using q1,q2,q3,hr _ _ q4,hr _ _ q5⟩
    ·rename_i dM
     obtain⟨en,kv,vv,q1,q2,q3,q4,q5⟩:=hM (q+1) cs hq
     exact⟨en,kv,vv,by rw[QK,List.getElem?_eraseIdx,if_neg dM];simpa using q1,q2,q3,hr _ _ q4,hr _ _ q5⟩
 ·cases hv
end
end Go.Proofs.YtgoelphibofcmaaGreat.V
