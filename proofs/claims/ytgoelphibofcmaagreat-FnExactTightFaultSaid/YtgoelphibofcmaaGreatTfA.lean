/- A small language in which the program's functions are read by value: its values, its operations, its code, and how the program's code is brought into it. -/
import Derived.WalkKit
import Derived.WalkSpells
import Derived.WalkLawsBesides
import Derived.Lib.Hide
import Derived.Great.BuildSlice
import Derived.Conc.LoneCalls
import Derived.MapKept
import Derived.WideKeyRuns
set_option linter.unusedVariables false
set_option linter.unusedSimpArgs false
set_option maxRecDepth 100000
set_option maxHeartbeats 16000000
namespace Go.Proofs.YtgoelphibofcmaaGreat.V
open Go.RowKit
structure Id where
  site:Nat
  aZ:Nat
  deriving DecidableEq,Repr
inductive TS where
  |tI|tB|tS
  deriving Repr,DecidableEq
structure MK where
  ka:Bool
  ts:List TS
  deriving Repr,DecidableEq
inductive AV where
  |int (k:IntKind) (n:Int)
  |bool (b:Bool)
  |str (s:ByteArray)
  |cj|gj|iM
  |sl (rows:List (List AV))
  |own (id:Id) (off len:Nat)
  |ptr (id:Id) (i off:Nat)
  |cr (cs:List AV)
  |agg (cs:List AV)
  |gx (vs:List AV)
  |fn (f:Nat) (cz:List AV)
  |map (id:Id) (m:MK)
  |iX
  |sV (f:Nat) (first:List AV)
  |qx (id:Id)
  deriving Inhabited
def AV.undef:AV:=.gx []
def AV.cell:AV->Bool
  | .agg _| .gx _=>false
  |_=>true
def AV.cells:AV->List AV
  | .agg cs=>cs
  |v=>[v]
inductive K where
  |int (k:IntKind) (n:Int)
  |bool (b:Bool)
  |str (l:List UInt8)
  |cj|gj|iM|iX
  deriving Repr,DecidableEq
def K.val:K->Value
  | .int k n=>.int k n
  | .bool b=>.bool b
  | .str l=>.string ⟨l.toArray⟩
  | .cj=>.slice none 0 0
  | .gj=>.pointer none
  | .iM=>.nilFunc
  | .iX=>.map none
def K.av:K->AV
  | .int k n=>.int k n
  | .bool b=>.bool b
  | .str l=>.str ⟨l.toArray⟩
  | .cj=>.cj
  | .gj=>.gj
  | .iM=>.iM
  | .iX=>.iX
def FI:Value->Option K
  | .int k n=>some (.int k n)
  | .bool b=>some (.bool b)
  | .string s=>some (.str s.data.toList)
  | .slice none 0 0=>some .cj
  | .pointer none=>some .gj
  | .nilFunc=>some .iM
  | .map none=>some .iX
  |_=>none
inductive O where
  |t (n:Nat)
  |k (c:K)
  |ka (cs:List K)
  |f (n:Nat)
  deriving Repr,DecidableEq
inductive MQ where
  |new (m:MK)
  |look (m:MK) (ok:Bool) (zero:K)
  |len (m:MK)
  deriving Repr,DecidableEq
inductive MW where
  |set (m:MK)
  |del (m:MK)
  deriving Repr,DecidableEq
inductive fX where
  |cH (x:O)
  |pick (c a b:O)
  |new (zero:List K)
  |box (x:O)
  |build (zero:List K) (parts:List (Nat×Nat×O))
  |kn (sz len:Nat) (parts:List O)
  |load (agg:Bool) (n:Nat) (a:O)
  |store (n:Nat) (a x:O)
  |zU (x:O)
  |bin (op:BinOp) (k:IntKind) (x y:O)
  |sh (left:Bool) (x y:O)
  |JU (op:BinOp) (x y:O)
  |Mx (neg:Bool) (t:TS) (x y:O)
  |QO (neg:Bool) (ts:List TS) (x y:O)
  |Pf (neg Ky:Bool) (x:O)
  |QP (neg:Bool) (x:O)
  |not (x:O)
  |neg (x:O)
  |conv (k:IntKind) (x:O)
  |D6 (x:O)
  |slice (sz:Nat) (x:O) (lo hi:Option O)
  |zB (x:O) (lo hi:Option O)
  |fG (off:Nat) (x:O)
  |field (agg:Bool) (off n:Nat) (x:O)
  |dy (sz:Nat) (x i:O)
  |Kt (len sz:Nat) (x i:O)
  |Kv (x i:O)
  |ek (agg:Bool) (len n:Nat) (x i:O)
  |extract (i:Nat) (x:O)
  |len (x:O)
  |KB (x:O)
  |append (sz:Nat) (x y:O)
  |copy (sz:Nat) (x y:O)
  |clear (zero:List K) (x:O)
  |KF (f:Nat) (cz:List O)
  |KG (f:Nat) (first:List O)
  |jK (zero:List K) (len cap:O)
  |call (f:Nat) (args:List O)
  |sD (x:O) (args:List O)
  |mq (q:MQ) (xs:List O)
  |mw (q:MW) (xs:List O)
  |Im (x:O)
  |Ig (x:O)
  |snd (x y:O)
  |NK (x:O)
  |bad
  deriving Repr,DecidableEq
structure aM where
  dst:Option Nat
  op:fX
  guard:Option (Nat×Bool)
  site:Nat
  hid:List Nat
  deriving Repr,DecidableEq
def q (d:Nat) (op:fX) (s:Nat):aM:=⟨some d,op,none,s,[]⟩
inductive VC where
  |skip
  |dW (draw:Bool) (ops:List aM)
  |seq (a b:VC)
  |cond (c:O) (x y:VC)
  |block (id:Nat) (c:VC)
  |loop (c:VC)
  |exit (id:Nat)
  |ret
  |one (o:aM) (c:VC)
  |both (a b:VC)
  |loc (t s:Nat) (y:O) (c:VC)
  |Mr (ops:List aM)
  deriving Repr,DecidableEq
inductive ni where
  |tmp (t:Nat)
  |cell (agg:Bool) (n:Nat) (t:Nat)
  deriving Repr,DecidableEq
structure zT where
  ntmps:Nat
  xT:Nat
  body:VC
  res:List ni
  deriving Repr,DecidableEq
def fD (P:Program) (f:Nat):Bool:=
  match P.funcs[f]? with
  |some fn=>fn.body.isSome&& !(fn.name== "runtime.NumGoroutine")
  |none=>false
def cO (P:Program):Operand->Option O
  | .tmp t=>some (.t t)
  | .const (.agg cs)=>(cs.toList.mapM FI).map O.ka
  | .const v=>(FI v).map O.k
  | .global _=>none
  | .func f=>if fD P f then some (.f f)else none
def ju (P:Program) (t:TypeId):Option (List K):=
  match P.info? t with
  |some i=>match i.zero with
    |some v=>if v.cells.size=i.size then v.cells.toList.mapM FI else none
    |none=>none
  |none=>none
def dI (P:Program) (t:TypeId):Option Nat:=(P.info? t).map (·.size)
def nr (P:Program) (t:TypeId):Option Bool:=
  match P.underlying t with
  |some (.struct _)|some (.array _ _)=>some true
  |some _=>some false
  |none=>none
inductive RJ where
  |sc (t:TS)|ag (ts:List TS)
  deriving Repr,DecidableEq
def fa (P:Program) (t:TypeId):Option TS:=
  match P.underlying t with
  |some .bool=>some .tB
  |some (.int _)=>some .tI
  |some .string=>some .tS
  |_=>none
def Cz (P:Program) (inner:List Field->Option (List TS)):Nat->List Field->Option (List TS)
  |_,[]=>some []
  |off,f::r=>
    if f.offset=off/\f.name≠ "_" then
      match fa P f.type with
      |some t=>if nr P f.type=some false then(Cz P inner (off+1) r).map (t::·)else none
      |none=>match P.underlying f.type with
        |some (.struct fs)=>if !P.stoodInHeld f.type then match inner fs.toList with
          |some ts=>if dI P f.type=some ts.length/\ts≠[]then(Cz P inner (off+ts.length) r).map (ts++·)else none
          |none=>none else none
        |_=>none
    else none
def ee (P:Program):Nat->Nat->List Field->Option (List TS)
  |0,_,[]=>some []
  |0,_,_::_=>none
  |d+1,off,fs=>Cz P (ee P d 0) off fs
def RV (P:Program) (t:TypeId):Option RJ:=
  match fa P t with
  |some s=>some (.sc s)
  |none=>match P.underlying t with
    |some (.struct fs)=>if !P.stoodInHeld t&& !P.eqGuardType P.depth t then(ee P 4 0 fs.toList).map RJ.ag else none
    |_=>none
def rH (P:Program) (fs:Array Field):List (Nat×O)->Option (List (Nat×Nat×O))
  |[]=>some []
  |(i,x)::r=>match fs[i]? with
    |some f=>match dI P f.type with
      |some n=>(rH P fs r).map ((f.offset,n,x)::·)
      |none=>none
    |none=>none
def rK (P:Program) (ps:Array (Nat×Operand)):Option (List (Nat×O)):=ps.toList.mapM fun(i,x)=>(cO P x).map (i,·)
def qv (P:Program):Option Operand->Option (Option O)
  |none=>some none
  |some x=>(cO P x).map some
def rI (P:Program) (neg:Bool) (t:TypeId) (x y:Operand):Option fX:=
  match y with
  | .const (.slice none 0 0)=>match P.underlying t with
    |some (.slice _)=>(cO P x).map (fX.Pf neg false)
    |_=>none
  | .const .nilFunc=>match P.underlying t with
    |some (.func ..)=>(cO P x).map (fX.Pf neg true)
    |_=>none
  | .const (.pointer none)=>match P.underlying t with
    |some (.pointer _)=>(cO P x).map (fX.QP neg)
    |_=>none
  |_=>match RV P t with
    |some (.sc s)=>do pure (.Mx neg s (<-cO P x) (<-cO P y))
    |some (.ag ts)=>do pure (.QO neg ts (<-cO P x) (<-cO P y))
    |_=>none
def uj (P:Program) (op:BinOp) (t:TypeId) (x y:Operand):Option fX:=
  match op with
  | .eql=>rI P false t x y
  | .neq=>rI P true t x y
  | .shl=>do pure (.sh true (<-cO P x) (<-cO P y))
  | .shr=>do pure (.sh false (<-cO P x) (<-cO P y))
  |op=>match P.underlying t with
    |some (.int k)=>do pure (.bin op k (<-cO P x) (<-cO P y))
    |some .string=>do pure (.JU op (<-cO P x) (<-cO P y))
    |_=>none
def rJ (P:Program) (t:TypeId):Option (MK×K):=
  match P.underlying t with
  |some (.map k e)=>match nr P e,(P.info? e).bind (·.zero),fa P k,P.underlying k with
    |some false,some zv,some s,_=>(FI zv).map fun z=>(⟨false,[s]⟩,z)
    |some false,some zv,none,some (.struct fs)=>match ee P 4 0 fs.toList,FI zv with
      |some ts,some z=>if !P.stoodInHeld k/\fs.toList.all (fun f=>(fa P f.type).isSome)then some (⟨true,ts⟩,z)else none
      |_,_=>none
    |_,_,_,_=>none
  |_=>none
def mT (P:Program) (c:Call):Option fX:=
  match c.callee with
  | .builtin .len=>match c.args.toList,c.argTypes.toList with
    |[x],[t]=>match P.underlying t with
      |some (.slice _)=>(cO P x).map fX.len
      |some .string=>(cO P x).map fX.KB
      |some (.map _ _)=>match rJ P t,cO P x with
        |some (m,_),some x=>some (.mq (.len m) [x])
        |_,_=>none
      |some (.chan _ _)=>(cO P x).map fX.Ig
      |_=>none
    |_,_=>none
  | .builtin .append=>match c.args.toList,c.argTypes.toList with
    |[x,y],[t,u]=>match P.underlying t with
      |some (.slice e)=>match dI P e,ju P e,P.info? e with
        |some (sz+1),some _,some i=>if i.bytes<=32768/\t=u then do pure (.append (sz+1) (<-cO P x) (<-cO P y))else none
        |_,_,_=>none
      |_=>none
    |_,_=>none
  | .builtin .clear=>match c.args.toList,c.argTypes.toList with
    |[x],[t]=>match P.underlying t with
      |some (.slice e)=>match dI P e,ju P e with
        |some (_+1),some z=>(cO P x).map (fX.clear z)
        |_,_=>none
      |_=>none
    |_,_=>none
  | .value (.func f)=>if fD P f then(c.args.toList.mapM (cO P)).map (fX.call f)else none
  | .value (.tmp t)=>(c.args.toList.mapM (cO P)).map (fX.sD (.t t))
  | .builtin .delete=>match c.args.toList,c.argTypes.toList with
    |[x,k],[t,_]=>match rJ P t,cO P x,cO P k with
      |some (m,_),some x,some k=>some (.mw (.del m) [x,k])
      |_,_,_=>none
    |_,_=>none
  | .builtin .copy=>match c.args.toList,c.argTypes.toList with
    |[x,y],[t,_]=>match P.underlying t with
      |some (.slice e)=>match dI P e with
        |some (sz+1)=>do pure (.copy (sz+1) (<-cO P x) (<-cO P y))
        |_=>none
      |_=>none
    |_,_=>none
  |_=>none
def qh (P:Program) (o:Op):Option fX:=
  match o with
  | .move x| .assign x=>(cO P x).map fX.cH
  | .pick c a b=>do pure (.pick (<-cO P c) (<-cO P a) (<-cO P b))
  | .alloc e=>(ju P e).map fX.new
  | .box _ x=>(cO P x).map fX.box
  | .load t a=>do pure (.load (<-nr P t) (<-dI P t) (<-cO P a))
  | .store t a x=>do pure (.store (<-dI P t) (<-cO P a) (<-cO P x))
  | .nilCheck x=>(cO P x).map fX.zU
  | .binOp op t x y _=>uj P op t x y
  | .unOp .not _ x=>(cO P x).map fX.not
  | .unOp .neg _ x=>(cO P x).map fX.neg
  | .convert s d x=>match P.underlying s,P.underlying d with
    |some (.int _),some (.int k)=>(cO P x).map (fX.conv k)
    |some .string,some .string=>(cO P x).map fX.D6
    |_,_=>none
  | .slice t x lo hi none=>match P.underlying t with
    |some (.slice e)=>do
      pure (.slice (<-dI P e) (<-cO P x) (<-qv P lo) (<-qv P hi))
    |some .string=>do pure (.zB (<-cO P x) (<-qv P lo) (<-qv P hi))
    |_=>none
  | .fieldAddr s x i=>match P.underlying s with
    |some (.struct fs)=>match fs[i]? with
      |some f=>match dI P f.type with
        |some (_+1)=>(cO P x).map (fX.fG f.offset)
        |_=>none
      |none=>none
    |_=>none
  | .field s x i=>match P.underlying s with
    |some (.struct fs)=>match fs[i]? with
      |some f=>do pure (.field (<-nr P f.type) f.offset (<-dI P f.type) (<-cO P x))
      |none=>none
    |_=>none
  | .indexAddr t x i=>match P.underlying t with
    |some (.slice e)=>match dI P e with
      |some (m+1)=>do pure (.dy (m+1) (<-cO P x) (<-cO P i))
      |_=>none
    |some (.array len e)=>match dI P e with
      |some (m+1)=>do pure (.Kt len (m+1) (<-cO P x) (<-cO P i))
      |_=>none
    |_=>none
  | .index t x i=>match P.underlying t with
    |some .string=>do pure (.Kv (<-cO P x) (<-cO P i))
    |some (.array len e)=>do pure (.ek (<-nr P e) len (<-dI P e) (<-cO P x) (<-cO P i))
    |_=>none
  | .extract x i=>(cO P x).map (fX.extract i)
  | .build t ps=>match P.underlying t with
    |some (.struct fs)=>
      match ju P t,rK P ps with
      |some z,some l=>
        if fs.all (fun f=>(P.info? f.type).isSome)then(rH P fs l).map (fX.build z)else none
      |_,_=>none
    |some (.array _ e)=>
      match ju P t,rK P ps,dI P e with
      |some z,some l,some n=>some (.build z (l.map fun(i,x)=>(i*n,n,x)))
      |_,_,_=>none
    |_=>none
  | .buildSlice t len ps=>match P.underlying t with
    |some (.slice e)=>match dI P e,ju P e,rK P ps with
      |some (sz+1),some _,some l=>
        if len*(sz+1)<=4096/\l.map (·.1)=List.range len then some (.kn (sz+1) len (l.map (·.2)))else none
      |_,_,_=>none
    |_=>none
  | .makeFunc (.func f) first cz=>
    if first= #[]/\fD P f then(cz.toList.mapM (cO P)).map (fX.KF f)else if cz= #[]/\fD P f then(first.toList.mapM (cO P)).map (fX.KG f)else none
  | .makeSlice t l c=>match P.underlying t with
    |some (.slice e)=>match dI P e,ju P e,P.info? e with
      |some (_+1),some z,some i=>if i.bytes<=32768 then do pure (.jK z (<-cO P l) (<-cO P c))else none
      |_,_,_=>none
    |_=>none
  | .call c=>mT P c
  | .makeChan t n=>match P.underlying t with
    |some (.chan _ e)=>match P.info? e with
      |some i=>if i.bytes<=32768 then(cO P n).map fX.Im else none
      |none=>none
    |_=>none
  | .send x y=>do pure (.snd (<-cO P x) (<-cO P y))
  | .recv t x false=>match P.underlying t with
    |some (.chan _ e)=>match (P.info? e).bind (·.zero)with
      |some _=>(cO P x).map fX.NK
      |none=>none
    |_=>none
  | .makeMap t none=>match rJ P t with
    |some (m,_)=>some (.mq (.new m) [])
    |none=>none
  | .lookup t x k ok=>match rJ P t,cO P x,cO P k with
    |some (m,z),some x,some k=>some (.mq (.look m ok z) [x,k])
    |_,_,_=>none
  | .mapUpdate t x k v| .insert t x k v=>match rJ P t,cO P x,cO P k,cO P v with
    |some (m,_),some x,some k,some v=>some (.mw (.set m) [x,k,v])
    |_,_,_,_=>none
  | .makeInterface _ _=>some .bad
  | .panic _=>some .bad
  |_=>none
inductive RI where
  |pure|look|make|write
  deriving DecidableEq,Repr
def fX.cls:fX->RI
  | .new _| .box _| .kn .. | .jK .. | .mq (.new _) _| .Im _=>.make
  | .load .. | .dy .. | .slice .. | .call .. | .sD .. | .mq .. | .Ig _=>.look
  | .store .. | .append .. | .copy .. | .clear .. | .mw .. | .snd .. | .NK _=>.write
  |_=>.pure
def clash:RI->RI->Bool
  | .pure,_|_,.pure=>false
  | .write,_|_,.write=>true
  |_,_=>false
def jo (ops:Array Oper):Array Nat:=Region.before ops
def p7:fX->Bool:=fun o=>o.cls==.make||o.cls==.write
def fX.lD:fX->Bool
  | .call .. | .sD .. =>true
  |_=>false
def Cj (ops:Array Oper) (o:Oper):Option (Option (Nat×Bool)):=
  match o.guard with
  |none=>some none
  |some (i,b)=>match (ops[i]?).bind (·.dst)with
    |some t=>some (some (t,b))
    |none=>none
def ko (P:Program) (ops:Array Oper) (nt site0:Nat) (draw mk:Bool) (bs:Array Nat) (hidden:List (Nat×Bool)) (j:Nat) (o:Oper):Option aM:=do
  let v <-qh P o.op
  let g <-Cj ops o
  if (o.dst.all fun d=>decide (d<nt))then
    pure {dst:=o.dst,op:=v,guard:=g,site:=site0+j,hid:=if draw then(hidden.filter fun(i,m)=>m&& !(bs.getD j 0).testBit i&&(i !=j||mk&&v.lD)).map fun(i,_)=>site0+i else[]}
  else none
def allM {α:Type} (f:Nat->Oper->Option α):List Oper->Nat->Option (List α)
  |[],_=>some []
  |o::r,j=>do pure ((<-f j o)::(<-allM f r (j+1)))
def gH:O->List Nat
  | .t n=>[n]
  |_=>[]
def vB:Option O->List Nat
  |some x=>gH x
  |none=>[]
def fX.gm:fX->List Nat
  | .clear _ x| .cH x| .box x| .load _ _ x| .zU x| .Pf _ _ x| .QP _ x| .not x| .neg x| .conv _ x| .D6 x| .fG _ x| .field _ _ _ x| .extract _ x| .len x| .KB x| .Im x| .Ig x| .NK x=>gH x
  | .pick c a b=>gH c++gH a++gH b
  | .new _| .bad=>[]
  | .build _ ps=>ps.flatMap fun(_,_,x)=>gH x
  | .kn _ _ ps=>ps.flatMap gH
  | .store _ a x| .snd a x=>gH a++gH x
  | .bin _ _ x y| .sh _ x y| .JU _ x y| .Mx _ _ x y| .QO _ _ x y| .dy _ x y| .Kt _ _ x y| .Kv x y| .ek _ _ _ x y| .append _ x y| .copy _ x y| .jK _ x y=>gH x++gH y
  | .slice _ x lo hi| .zB x lo hi=>gH x++vB lo++vB hi
  | .KF _ l| .KG _ l| .call _ l| .mq _ l| .mw _ l=>l.flatMap gH
  | .sD x l=>gH x++l.flatMap gH
def aM.gm (v:aM):List Nat:=v.op.gm++(match v.guard with|some (t,_)=>[t]|none=>[])
def sj (x y:aM):Bool:=
  (match x.dst with
   |some d=> !y.gm.contains d&&y.dst !=some d
   |none=>true)&&
  (match y.dst with
   |some d=> !x.gm.contains d
   |none=>true)
def aM.makes (v:aM):Bool:=p7 v.op||v.op.lD&&v.hid.contains v.site
def Ef (x y:aM):Bool:=
  sj x y&& !clash x.op.cls y.op.cls&&(!x.makes||y.hid.contains x.site)&&(!y.makes||x.hid.contains y.site)&&x.site !=y.site
def D8 (ops:Array Oper):Bool:=ops.toList.zipIdx.all fun(o,j)=>o.after.all fun e=> !Region.binds .any e||decide (e.on<j)
def nP (ops:Array Oper) (vl:List aM) (bs:Array Nat):Bool:=
  D8 ops&&vl.zipIdx.all fun(y,j)=>vl.zipIdx.all fun(x,i)=> !(decide (i<j))||(bs.getD j 0).testBit i||Ef x y
def qw (P:Program) (nt site0:Nat) (ops:Array Oper) (draw mk:Bool):Option (List aM):=
  let bs:=if draw then jo ops else #[]
  let hidden:=if draw then ops.toList.zipIdx.map fun(o,i)=>(i,((qh P o.op).map fun v=>p7 v||mk&&v.lD).getD false)else[]
  match allM (ko P ops nt site0 draw mk bs hidden) ops.toList 0 with
  |some vl=>if !draw||nP ops vl bs then some vl else none
  |none=>none
def kG (v:aM):Bool:= !v.op.lD&&v.op.cls !=.write
def xx (x y:aM):Bool:=sj x y&&x.op.cls==.pure||Ef x y&&kG x&&kG y
def pN (ops:Array Oper) (vl:List aM) (bs:Array Nat) (listed:Array Bool) (i:Nat):Bool:=
  match vl[i]? with
  |some x=>(List.range ops.size).all fun j=>listed.getD j false||j==i||(bs.getD j 0).testBit i||(match vl[j]? with|some y=>xx x y|none=>false)
  |none=>false
def LV (vl:List aM) (x:aM):Option (Nat×Nat×O):=
  match x.op,x.guard with
  | .append _ (.t t) y,none=>match vl.find? fun v=>v.dst==some t&&v.op.cls==.make with
    |some v=>some (t,v.site,y)
    |none=>none
  |_,_=>none
def Ee (s:Nat) (x y:aM):Bool:=sj x y&&kG y&&y.hid.contains s&&y.hid.contains x.site&&y.site !=s&&y.site !=x.site
def nS (ops:Array Oper) (vl:List aM) (bs:Array Nat) (listed:Array Bool) (i s:Nat):Bool:=
  match vl[i]? with
  |some x=>(List.range ops.size).all fun j=>listed.getD j false||j==i||(bs.getD j 0).testBit i||(match vl[j]? with|some y=>Ee s x y|none=>false)
  |none=>false
def Ny (ops:Array Oper) (vl:List aM) (bs:Array Nat) (listed:Array Bool) (i:Nat):Option (Nat×Nat×Nat×O×aM):=
  match vl[i]? with
  |some x=>match LV vl x with
    |some (t,s,y)=>if nS ops vl bs listed i s then some (i,t,s,y,x)else none
    |none=>none
  |none=>none
def Al:List VC->Option VC
  |[]=>none
  |[c]=>some c
  |c::r=>(Al r).map (VC.both c)
def wj (ops:Array Oper) (vl:List aM) (bs:Array Nat):Nat->Array Bool->Option VC
  |0,listed=>
    match Region.ready .any ops listed with
    |[]=>some (.dW false [])
    |_::_=>none
  |n+1,listed=>
    match Region.ready .any ops listed with
    |[]=>some (.dW false [])
    |r::rs=>let rdy:=r::rs
      match rdy.find? (pN ops vl bs listed)with
      |some i=>match vl[i]? with
        |some vo=>(wj ops vl bs n (listed.setIfInBounds i true)).map (VC.one vo)
        |none=>none
      |none=>match rdy.findSome? (Ny ops vl bs listed)with
        |some (i,t,s,y,vo)=>(wj ops vl bs n (listed.setIfInBounds i true)).map fun c=>VC.loc t s y (.one vo c)
        |none=>match rdy.mapM fun i=>(vl[i]?).bind fun vo=>(wj ops vl bs n (listed.setIfInBounds i true)).map (VC.one vo)with
          |some l=>Al l
          |none=>none
def LS:Op->Bool
  | .send .. | .recv .. =>true
  |_=>false
def O8 (P:Program) (nt site0:Nat) (ops:Array Oper) (draw:Bool) (mode:Nat):Option VC:=
  if draw&&mode==2 then
    match allM (ko P ops nt site0 true false (jo ops) (ops.toList.zipIdx.map fun(o,i)=>(i,((qh P o.op).map p7).getD false))) ops.toList 0 with
    |some vl=>wj ops vl (jo ops) ops.size (Array.replicate ops.size false)
    |none=>none
  else if !draw&&ops.any (fun o=>LS o.op)then(qw P nt site0 ops false false).map VC.Mr
  else(qw P nt site0 ops draw (mode==1)).map (VC.dW draw)
def ve (md:List (Nat×Nat)) (id:Nat):Nat:=
  match md with
  |[]=>0
  |(i,m)::r=>if i=id then m else ve r id
def jc (P:Program) (md:List (Nat×Nat)) (nt fid:Nat):Code->Option VC
  | .skip=>some .skip
  | .region id ops draw=>O8 P nt ((fid*1000+id)*1000) ops draw (ve md id)
  | .seq a b=>do pure (.seq (<-jc P md nt fid a) (<-jc P md nt fid b))
  | .cond c x y=>do pure (.cond (<-cO P c) (<-jc P md nt fid x) (<-jc P md nt fid y))
  | .block id c=>(jc P md nt fid c).map (VC.block id)
  | .loop c=>(jc P md nt fid c).map VC.loop
  | .exit id=>some (.exit id)
  | .ret=>some .ret
  |_=>none
def Ck (P:Program) (r:ResultVar):Option ni:=
  match r with
  | .tmp t=>some (.tmp t)
  | .cell a t=>do pure (.cell (<-nr P t) (<-dI P t) a)
def wK (P:Program) (f:Nat) (md:List (Nat×Nat)):Option zT:=
  match P.funcs[f]? with
  |some fn=>match fn.body with
    |some c=>do
      let b <-jc P md fn.ntmps f c
      let r <-fn.results.toList.mapM (Ck P)
      if fn.params.size+fn.nfree<=fn.ntmps then pure {ntmps:=fn.ntmps,xT:=fn.params.size+fn.nfree,body:=b,res:=r}else none
    |none=>none
  |none=>none
def ns (P:Program) (f:Nat):Option zT:=wK P f []
end Go.Proofs.YtgoelphibofcmaaGreat.V

namespace Go.Proofs.YtgoelphibofcmaaGreat.V
open Go.RowKit
structure Row where
 w:Bool
 sz:Nat
 rows:List (List AV)
abbrev Rows:=Id->Option Row
structure ar where
 get:Rows
 next:Nat
abbrev Env:=Nat->AV
def upd (env:Env):Option Nat->AV->Env
 |some d,v=>fun t=>if t=d then v else env t
 |none,_=>env
inductive Ex where
 |normal
 |exit (id:Nat)
 |ret
 deriving DecidableEq
def cE (env:Env):O->AV
 | .t n=>env n
 | .k c=>c.av
 | .ka cs=>.agg (cs.map K.av)
 | .f n=>.fn n []
def bB (g:Rows) (id:Id) (r:Row):Rows:=fun i=>if i=id then some r else g i
def bY (g:Rows) (id:Id):Rows:=fun i=>if i=id then none else g i
def gy:List Nat->Nat->Rows->Rows
 |[],_,g=>g
 |h::t,n,g=>fun id=>if (h::t).contains id.site=true/\id.aZ=n then none else g id
def ro (g:Rows):Rows:=fun id=>(g id).map fun r=>{r with w:=false}
def part (agg:Bool) (n:Nat) (cs:List AV):Option AV:=
 if agg then(if n<=cs.length then some (.agg (cs.take n))else none)else cs.head?
def rowAt (g:Rows) (id:Id) (i:Nat):Option (List AV):=(g id).bind (·.rows[i]?)
def ld (g:Rows) (agg:Bool) (n:Nat):AV->Option AV
 | .ptr id i off=>(rowAt g id i).bind fun cs=>part agg n (cs.drop off)
 | .cr cs=>part agg n cs
 |_=>none
def dO:BinOp->IntKind->Int->Int->Option AV
 | .add,k,a,b=>some (.int k (k.wrap (a+b)))
 | .sub,k,a,b=>some (.int k (k.wrap (a-b)))
 | .mul,k,a,b=>some (.int k (k.wrap (a*b)))
 | .quo,k,a,b=>if b=0 then none else some (.int k (k.wrap (a.tdiv b)))
 | .rem,k,a,b=>if b=0 then none else some (.int k (a.tmod b))
 | .lss,_,a,b=>some (.bool (decide (a<b)))
 | .leq,_,a,b=>some (.bool (decide (a<=b)))
 | .gtr,_,a,b=>some (.bool (decide (b<a)))
 | .geq,_,a,b=>some (.bool (decide (b<=a)))
 | .and,k,a,b=>some (.int k (k.wrap (BitVec.ofInt k.bits a&&& BitVec.ofInt k.bits b).toNat))
 | .or,k,a,b=>some (.int k (k.wrap (BitVec.ofInt k.bits a|||BitVec.ofInt k.bits b).toNat))
 | .xor,k,a,b=>some (.int k (k.wrap (BitVec.ofInt k.bits a ^^^ BitVec.ofInt k.bits b).toNat))
 |_,_,_,_=>none
def ev (op:BinOp):AV->AV->Option AV
 | .int k a,.int k' b=>if k=k' then dO op k a b else none
 |_,_=>none
def iI (left:Bool):AV->AV->Option AV
 | .int k a,.int _ b=>if b<0 then none else some (.int k (if left then k.wrap (a*2 ^ min b.toNat k.bits)else a.fdiv (2 ^ min b.toNat k.bits)))
 |_,_=>none
def eI:BinOp->ByteArray->ByteArray->Option AV
 | .add,a,b=>if a.size+b.size<=9223372036854775807 then some (.str (a++b))else none
 | .lss,a,b=>some (.bool (Op.bytesLess a.toList b.toList))
 | .leq,a,b=>some (.bool (Op.bytesLess a.toList b.toList||(a.toList==b.toList)))
 | .gtr,a,b=>some (.bool !(Op.bytesLess a.toList b.toList||(a.toList==b.toList)))
 | .geq,a,b=>some (.bool !(Op.bytesLess a.toList b.toList))
 |_,_,_=>none
def db (op:BinOp):AV->AV->Option AV
 | .str a,.str b=>eI op a b
 |_,_=>none
def gr:TS->AV->AV->Option Bool
 | .tI,.int k a,.int k' b=>if k=k' then some (decide (a=b))else none
 | .tB,.bool a,.bool b=>some (a==b)
 | .tS,.str a,.str b=>some (decide (a=b))
 |_,_,_=>none
def e8:List TS->List AV->List AV->Option Bool
 |[],[],[]=>some true
 |t::ts,a::r,b::s=>match gr t a b,e8 ts r s with
  |some x,some y=>some (x&&y)
  |_,_=>none
 |_,_,_=>none
def dx (neg b:Bool):Bool:=if neg then !b else b
def cZ:AV->Option Bool
 | .cj=>some true
 | .own _ _ _=>some false
 | .sl (_::_)=>some false
 |_=>none
def cY:AV->Option Bool
 | .iM=>some true
 | .fn _ _=>some false
 |_=>none
def Jd:AV->Option Bool
 | .gj=>some true
 | .ptr .. | .cr _=>some false
 |_=>none
def eB (Ky:Bool) (x:AV):Option Bool:=if Ky then cY x else cZ x
def ea (len:Nat):Option AV->Option Nat
 |none=>some len
 |some (.int _ n)=>if 0<=n/\n<=len then some n.toNat else none
 |_=>none
def ec (h:Nat):Option AV->Option Nat
 |none=>some 0
 |some (.int _ n)=>if 0<=n/\n<=h then some n.toNat else none
 |_=>none
def bQ (g:Rows) (sz:Nat) (x:AV) (lo hi:Option AV):Option AV:=
 match x with
 | .cj=>(ea 0 hi).bind fun h=>(ec h lo).map fun _=>.cj
 | .sl rows=>(ea rows.length hi).bind fun h=>(ec h lo).bind fun l=>if ∀cs∈rows,cs.length=sz then some (.sl ((rows.drop l).take (h-l)))else none
 | .own id off len=>(g id).bind fun r=>(ea len hi).bind fun h=>(ec h lo).bind fun l=>if r.sz=sz then some (.own id (off+l) (h-l))else none
 |_=>none
def aY (x:AV) (lo hi:Option AV):Option AV:=
 match x with
 | .str s=>(ea s.size hi).bind fun h=>(ec h lo).map fun l=>.str (s.extract l h)
 |_=>none
def DO (off:Nat):AV->Option AV
 | .ptr id i o=>some (.ptr id i (o+off))
 | .cr cs=>some (.cr (cs.drop off))
 |_=>none
def bP (g:Rows) (sz:Nat):AV->AV->Option AV
 | .sl rows,.int _ n=>if 0<=n then(rows[n.toNat]?).bind fun cs=>if cs.length=sz then some (.cr cs)else none else none
 | .own id off len,.int _ n=>if 0<=n/\n<len then(g id).bind fun r=>if r.sz=sz then some (.ptr id (off+n.toNat) 0)else none else none
 |_,_=>none
def cQ (len sz:Nat):AV->AV->Option AV
 | .ptr id r off,.int _ n=>if 0<=n/\n<len then some (.ptr id r (off+n.toNat*sz))else none
 | .cr cs,.int _ n=>if 0<=n/\n<len then some (.cr (cs.drop (n.toNat*sz)))else none
 |_,_=>none
def cU:AV->AV->Option AV
 | .str s,.int _ n=>if 0<=n then(s[n.toNat]?).map fun b=>.int .u8 b.toNat else none
 |_,_=>none
def cR (agg:Bool) (len n:Nat):AV->AV->Option AV
 | .agg cs,.int _ i=>if 0<=i/\i<len then part agg n (cs.drop (i.toNat*n))else none
 |_,_=>none
def ez:AV->Option Nat
 | .cj=>some 0
 | .sl rows=>some rows.length
 | .own _ _ n=>some n
 |_=>none
def eC:AV->Option AV
 | .bool b=>some (.bool !b)
 |_=>none
def eA:AV->Option AV
 | .int k n=>some (.int k (k.wrap (0-n)))
 |_=>none
def cP (k:IntKind):AV->Option AV
 | .int _ n=>some (.int k (k.wrap n))
 |_=>none
def bV:AV->Option AV
 | .str s=>some (.str s)
 |_=>none
def da:AV->AV->AV->Option AV
 | .bool c,a,b=>some (if c then a else b)
 |_,_,_=>none
def ew:AV->Option AV
 | .ptr id i o=>some (.ptr id i o)
 | .cr cs=>some (.cr cs)
 |_=>none
def bL (agg:Bool) (off n:Nat):AV->Option AV
 | .agg cs=>if off+n<=cs.length then part agg n (cs.drop off)else none
 |_=>none
def aL (i:Nat):AV->Option AV
 | .gx vs=>vs[i]?
 |_=>none
def cW:AV->Option AV
 | .str s=>some (.int .i64 s.size)
 |_=>none
def rowOf (sz:Nat) (v:AV):Option (List AV):=if v.cells.length=sz/\v.cells.all AV.cell then some v.cells else none
def cN (v:AV):Option (List AV):=if v.cells.all AV.cell then some v.cells else none
def rowsOf (sz:Nat):List AV->Option (List (List AV))
 |[]=>some []
 |v::r=>(rowOf sz v).bind fun c=>(rowsOf sz r).map fun cs=>c::cs
def cF:List AV->List (Nat×Nat×AV)->Option (List AV)
 |cs,[]=>some cs
 |cs,(off,n,v)::r=>if v.cells.length=n/\off+n<=cs.length/\v.cells.all AV.cell then cF (cs.take off++v.cells++cs.drop (off+n)) r else none
def dP:Nat:=16777216
def iH (zero:List K):AV->AV->Option (Nat×Row)
 | .int _ l,.int _ c=>if 0<=l/\l<=c/\c<=dP then some (l.toNat,⟨true,zero.length,List.replicate l.toNat (zero.map K.av)⟩)else none
 |_,_=>none
def qM:Nat:=1000000000
def MK.ks (m:MK):Nat:=m.ts.length
def MK.nA (m:MK):Nat:=qM+m.ks
def AV.isAgg:AV->Bool
 | .agg _=>true
 |_=>false
def fN (m:MK) (key:List AV):List (List AV)->Nat->Option (Option Nat)
 |[],_=>some none
 |r::l,i=>match e8 m.ts key (r.take m.ks)with
  |some true=>some (some i)
  |some false=>fN m key l (i+1)
  |none=>none
def eh (g:Rows) (m:MK):AV->Option (Id×Row)
 | .map id m'=>if m'=m then(g id).map fun r=>(id,r)else none
 |_=>none
def fE (m:MK) (k:AV) (rows:List (List AV)):Option (Option Nat):=if k.isAgg=m.ka/\k.cells.length=m.ks/\k.cells.all AV.cell then fN m k.cells rows 0 else none
def eu (m:MK) (z:K) (rows:List (List AV)):Option Nat->Option AV
 |some i=>(rows[i]?).bind fun cs=>cs[m.ks]?
 |none=>some z.av
def bF (q:MQ) (vs:List AV) (g:Rows) (id:Id):Option (AV×Option Row):=
 match q,vs with
 | .new m,[]=>some (.map id m,some ⟨true,m.nA,[]⟩)
 | .look m ok z,[x,k]=>(eh g m x).bind fun p=>(fE m k p.2.rows).bind fun fi=>(eu m z p.2.rows fi).map fun v=>(if ok then .gx [v,.bool fi.isSome]else v,none)
 | .len m,[x]=>(eh g m x).map fun p=>(.int .i64 p.2.rows.length,none)
 |_,_=>none
def pM:Nat:=2000000000
def cX:AV->Option Nat
 | .int _ n=>if 0<=n/\n<=1048576 then some n.toNat else none
 |_=>none
def cV (g:Rows):AV->Option AV
 | .qx id=>(g id).map fun r=>.int .i64 r.rows.length
 |_=>none
def eE (g:Rows):AV->AV->Option Rows
 | .qx id,v=>(g id).bind fun r=>if r.w/\pM+r.rows.length<r.sz/\v.cell then some (bB g id {r with rows:=r.rows++[[v]]})else none
 |_,_=>none
def eD (g:Rows):AV->Option (AV×Rows)
 | .qx id=>(g id).bind fun r=>match r.rows with
  |[v]::rest=>if r.w then some (v,bB g id {r with rows:=rest})else none
  |_=>none
 |_=>none
def dX (rows:List (List AV)) (e:List AV):Option Nat->List (List AV)
 |some i=>rows.set i e
 |none=>rows++[e]
def dY (rows:List (List AV)):Option Nat->List (List AV)
 |some i=>rows.eraseIdx i
 |none=>rows
def bG (q:MW) (vs:List AV) (g:Rows):Option Rows:=
 match q,vs with
 | .set m,[x,k,v]=>(eh g m x).bind fun p=>(fE m k p.2.rows).bind fun fi=>if p.2.w/\v.cell/\v.isAgg=false then some (bB g p.1 {p.2 with rows:=dX p.2.rows (k.cells++[v]) fi})else none
 | .del m,[x,k]=>(eh g m x).bind fun p=>(fE m k p.2.rows).bind fun fi=>if p.2.w then some (bB g p.1 {p.2 with rows:=dY p.2.rows fi})else none
 |_,_=>none
def eU (o:fX) (ρ:O->AV) (g:Rows) (id:Id):Option (AV×Option Row):=
 match o with
 | .cH x=>some (ρ x,none)
 | .pick c a b=>(da (ρ c) (ρ a) (ρ b)).map (·,none)
 | .new zero=>some (.ptr id 0 0,some ⟨true,zero.length,[zero.map K.av]⟩)
 | .box x=>(cN (ρ x)).map fun cs=>(.ptr id 0 0,some ⟨true,cs.length,[cs]⟩)
 | .build zero parts=>(cF (zero.map K.av) (parts.map fun(o,n,x)=>(o,n,ρ x))).map fun cs=>(.agg cs,none)
 | .kn sz len parts=>(rowsOf sz (parts.map ρ)).map fun rs=>(.own id 0 len,some ⟨true,sz,rs⟩)
 | .load agg n a=>(ld g agg n (ρ a)).map (·,none)
 | .zU x=>(ew (ρ x)).map (·,none)
 | .bin op _ x y=>(ev op (ρ x) (ρ y)).map (·,none)
 | .sh left x y=>(iI left (ρ x) (ρ y)).map (·,none)
 | .JU op x y=>(db op (ρ x) (ρ y)).map (·,none)
 | .Mx neg t x y=>(gr t (ρ x) (ρ y)).map fun b=>(.bool (dx neg b),none)
 | .QO neg ts x y=>match ρ x,ρ y with
  | .agg xs,.agg ys=>(e8 ts xs ys).map fun b=>(.bool (dx neg b),none)
  |_,_=>none
 | .Pf neg Ky x=>(eB Ky (ρ x)).map fun b=>(.bool (dx neg b),none)
 | .QP neg x=>(Jd (ρ x)).map fun b=>(.bool (dx neg b),none)
 | .not x=>(eC (ρ x)).map (·,none)
 | .neg x=>(eA (ρ x)).map (·,none)
 | .conv k x=>(cP k (ρ x)).map (·,none)
 | .D6 x=>(bV (ρ x)).map (·,none)
 | .slice sz x lo hi=>(bQ g sz (ρ x) (lo.map ρ) (hi.map ρ)).map (·,none)
 | .zB x lo hi=>(aY (ρ x) (lo.map ρ) (hi.map ρ)).map (·,none)
 | .fG off x=>(DO off (ρ x)).map (·,none)
 | .field agg off n x=>(bL agg off n (ρ x)).map (·,none)
 | .dy sz x i=>(bP g sz (ρ x) (ρ i)).map (·,none)
 | .Kt len sz x i=>(cQ len sz (ρ x) (ρ i)).map (·,none)
 | .Kv x i=>(cU (ρ x) (ρ i)).map (·,none)
 | .ek agg len n x i=>(cR agg len n (ρ x) (ρ i)).map (·,none)
 | .extract i x=>(aL i (ρ x)).map (·,none)
 | .len x=>(ez (ρ x)).map fun(n:Nat)=>(AV.int .i64 (n:Int),none)
 | .KB x=>(cW (ρ x)).map (·,none)
 | .KF f cz=>some (.fn f (cz.map ρ),none)
 | .KG f first=>some (.sV f (first.map ρ),none)
 | .jK zero l c=>(iH zero (ρ l) (ρ c)).map fun(n,r)=>(.own id 0 n,some r)
 | .mq q xs=>bF q (xs.map ρ) g id
 | .Im x=>(cX (ρ x)).map fun n=>(.qx id,some ⟨true,pM+n,[]⟩)
 | .Ig x=>(cV g (ρ x)).map (·,none)
 |_=>none
def bz (g:Rows):AV->Option (List (List AV))
 | .cj=>some []
 | .sl rows=>some rows
 | .own id off len=>(g id).bind fun r=>if off+len<=r.rows.length then some ((r.rows.drop off).take len)else none
 |_=>none
def cK (cs:List AV) (off:Nat) (xs:List AV):List AV:=cs.take off++xs++cs.drop (off+xs.length)
def bR (g:Rows) (n:Nat) (v:AV):AV->Option Rows
 | .ptr id i off=>(g id).bind fun r=>(r.rows[i]?).bind fun cs=>
  if r.w/\v.cells.length=n/\v.cells.all AV.cell/\off+n<=cs.length then some (bB g id {r with rows:=r.rows.set i (cK cs off v.cells)})else none
 |_=>none
def aU (g:Rows) (id:Id) (sz:Nat) (x:AV) (ys:List (List AV)):Option (AV×Rows):=
 match x with
 | .cj=>match ys with
  |[]=>some (.cj,g)
  |y::r=>if (y::r).length<=dP/\(y::r).all (fun c=>c.length==sz&&c.all AV.cell)then some (.own id 0 (y::r).length,bB g id ⟨true,sz,y::r⟩)else none
 | .own i 0 len=>(g i).bind fun r=>
  if r.w/\r.sz=sz/\len=r.rows.length/\len+ys.length<=dP/\ys.all (fun c=>c.length==sz&&c.all AV.cell)then some (.own id 0 (len+ys.length),bB (bY g i) id ⟨true,sz,r.rows++ys⟩)else none
 |_=>none
def EM (g:Rows) (sz:Nat) (x:AV) (ys:List (List AV)):Option (AV×Rows):=
 match x with
 | .own i off len=>(g i).bind fun r=>
  if r.w/\r.sz=sz/\off+len<=r.rows.length/\ys.all (fun c=>c.length==sz&&c.all AV.cell)then
   some (.int .i64 (min ys.length len:Nat),bB g i {r with rows:=r.rows.take off++ys.take (min ys.length len)++r.rows.drop (off+min ys.length len)})else none
 |_=>none
def bK (g:Rows) (zero:List K) (x:AV):Option Rows:=
 match x with
 | .cj=>some g
 | .own i off len=>(g i).bind fun r=>
  if r.w/\r.sz=zero.length/\off+len<=r.rows.length then
   some (bB g i {r with rows:=r.rows.take off++List.replicate len (zero.map K.av)++r.rows.drop (off+len)})else none
 |_=>none
def gE (o:fX) (ρ:O->AV) (g:Rows) (id:Id):Option (AV×Rows):=
 match o with
 | .store n a x=>(bR g n (ρ x) (ρ a)).map fun g'=>(.undef,g')
 | .append sz x y=>(bz g (ρ y)).bind fun ys=>aU g id sz (ρ x) ys
 | .copy sz x y=>(bz g (ρ y)).bind fun ys=>EM g sz (ρ x) ys
 | .clear zero x=>(bK g zero (ρ x)).map fun g'=>(.undef,g')
 | .mw q xs=>(bG q (xs.map ρ) g).map fun g'=>(.undef,g')
 |_=>none
def uk:AV->List AV->Option (Nat×List AV)
 | .fn f cz,l=>some (f,l++cz)
 | .sV f first,l=>some (f,first++l)
 |_,_=>none
abbrev fu:=Nat->List AV->ar->(AV->ar->Prop)->Prop
mutual
def fz (g:Rows):Nat->AV->Option AV
 |0,_=>none
 |n+1,a=>match a with
  | .own id off len=>match g id with
   |some r=>if r.w then(if off+len<=r.rows.length then(dK g n ((r.rows.drop off).take len)).map AV.sl else none)else none
   |none=>none
  | .ptr id i off=>match g id with
   |some r=>if r.w then(match r.rows[i]? with
    |some cs=>(cG g n (cs.drop off)).map AV.cr
    |none=>none)else none
   |none=>none
  | .agg cs=>(cG g n cs).map AV.agg
  | .gx vs=>(cG g n vs).map AV.gx
  | .fn f cz=>if cz.all AV.cell then(cG g n cz).map (AV.fn f)else none
  | .map _ _| .sV _ _| .qx _=>none
  |v=>some v
 termination_by n _=>(n,0)
def cG (g:Rows):Nat->List AV->Option (List AV)
 |n,[]=>some []
 |n,a::r=>match fz g n a with
  |some b=>(cG g n r).map (b::·)
  |none=>none
 termination_by n l=>(n,l.length+1)
def dK (g:Rows):Nat->List (List AV)->Option (List (List AV))
 |n,[]=>some []
 |n,c::r=>match cG g n c with
  |some b=>(dK g n r).map (b::·)
  |none=>none
 termination_by n l=>(n,(l.map (fun c=>c.length+2)).sum+1)
 decreasing_by all_goals simp_wf;try omega
end
mutual
def fY (g:Rows):Nat->AV->Option AV
 |0,_=>none
 |n+1,a=>match a with
  | .own id off len=>match g id with
   |some r=>if r.w then(if off+len<=r.rows.length then(gR g n ((r.rows.drop off).take len)).map AV.sl else none)else none
   |none=>none
  | .ptr id i off=>match g id with
   |some r=>if r.w then(match r.rows[i]? with
    |some cs=>(dS g n (cs.drop off)).map AV.cr
    |none=>none)else none
   |none=>none
  | .agg cs=>(dS g n cs).map AV.agg
  | .gx vs=>(dS g n vs).map AV.gx
  | .int k m=>some (.int k m)
  | .bool b=>some (.bool b)
  | .str s=>some (.str s)
  | .cj=>some .cj
  | .gj=>some .gj
  | .iM=>some .iM
  | .iX=>some .iX
  |_=>none
 termination_by n _=>(n,0)
def dS (g:Rows):Nat->List AV->Option (List AV)
 |n,[]=>some []
 |n,a::r=>match fY g n a with
  |some b=>(dS g n r).map (b::·)
  |none=>none
 termination_by n l=>(n,l.length+1)
def gR (g:Rows):Nat->List (List AV)->Option (List (List AV))
 |n,[]=>some []
 |n,c::r=>match dS g n c with
  |some b=>(gR g n r).map (b::·)
  |none=>none
 termination_by n l=>(n,(l.map (fun c=>c.length+2)).sum+1)
 decreasing_by all_goals simp_wf;try omega
end
def dQ (g:Rows):Rows:=fun id=>(g id).map fun r=>{r with w:=true}
def PC (X:fu) (f:Nat) (args:List AV) (σ:ar) (K:AV->Prop):Prop:=
 X f args ⟨ro σ.get,σ.next⟩ fun r σ'=>∃r',fz σ'.get 6 r=some r'/\K r'
def PCv (X:fu) (f:Nat) (args:List AV) (σ:ar) (K:AV->Prop):Prop:=
 ∃args',cG (dQ σ.get) 6 args=some args'/\X f args' ⟨fun _=>none,σ.next⟩ fun r σ'=>∃r',fY σ'.get 6 r=some r'/\K r'
def gI (X:fu) (f:Nat) (args:List AV) (σ:ar) (K:AV->Prop):Prop:=PC X f args σ K∨PCv X f args σ K
def aK (g:Option (Nat×Bool)) (env:Env):Bool:=
 match g with
 |none=>true
 |some (t,b)=>match env t with
  | .bool c=>c==b
  |_=>false
def AV.plain:AV->Bool
 | .int .. | .bool _| .str _| .cj| .gj| .iM| .iX=>true
 |_=>false
def CM (X:fu) (f:Nat) (args:List AV) (σ:ar) (sz:Nat) (rows:List (List AV)):Prop:=
 (∀c∈rows,∀a∈c,a.plain=true)/\∃args',cG (dQ σ.get) 6 args=some args'/\X f args' ⟨fun _=>none,σ.next⟩ fun r σ'=>∃id,r=.own id 0 rows.length/\σ'.get id=some ⟨true,sz,rows⟩
def cI (X:fu) (draw:Bool) (hid:List Nat) (site:Nat) (f:Nat) (args:List AV) (σ:ar) (next:AV->ar->Prop):Prop:=
 (∃r,gI X f args ⟨gy hid σ.next σ.get,σ.next+1⟩ (fun r'=>r'=r)/\next r σ)∨
 (draw=false/\X f args ⟨σ.get,σ.next+1⟩ next)∨
 (hid.contains site=true/\∃sz rows,CM X f args ⟨gy hid σ.next σ.get,σ.next+1⟩ sz rows/\next (.own ⟨site,σ.next⟩ 0 rows.length) ⟨bB σ.get ⟨site,σ.next⟩ ⟨true,sz,rows⟩,σ.next⟩)
def fW (X:fu) (draw:Bool) (o:aM) (env:Env) (σ:ar) (next:AV->ar->Prop):Prop:=
 match o.op with
 | .call f args=>cI X draw o.hid o.site f (args.map (cE env)) σ next
 | .sD x args=>match cE env x with
  | .fn f cz=>cI X draw o.hid o.site f (args.map (cE env)++cz) σ next
  | .sV f first=>cI X draw o.hid o.site f (first++args.map (cE env)) σ next
  |_=>False
 | .store .. | .append .. | .copy .. | .clear .. | .mw .. =>match gE o.op (cE env) σ.get ⟨o.site,σ.next⟩with
  |some (v,g)=>next v ⟨g,σ.next⟩
  |none=>False
 |_=>match eU o.op (cE env) (gy o.hid σ.next σ.get) ⟨o.site,σ.next⟩with
  |some (v,some r)=>next v ⟨bB σ.get ⟨o.site,σ.next⟩ r,σ.next⟩
  |some (v,none)=>next v σ
  |none=>False
def wpOps (X:fu) (draw:Bool):List aM->(Env->ar->Prop)->Env->ar->Prop
 |[],K,env,σ=>K env ⟨σ.get,σ.next+1⟩
 |o::r,K,env,σ=>
  if aK o.guard env then fW X draw o env σ fun v σ'=>wpOps X draw r K (upd env o.dst v) σ'
  else wpOps X draw r K (upd env o.dst .undef) σ
def cD:List aM->(Env->ar->Prop)->Env->ar->Prop
 |[],K,env,σ=>K env ⟨σ.get,σ.next+1⟩
 |o::r,K,env,σ=>o.guard=none/\match o.op with
  | .snd x y=>match eE σ.get (cE env x) (cE env y)with
   |some g=>cD r K (upd env o.dst .undef) ⟨g,σ.next⟩
   |none=>False
  | .NK x=>match eD σ.get (cE env x)with
   |some (v,g)=>cD r K (upd env o.dst v) ⟨g,σ.next⟩
   |none=>False
  |op=>match eU op (cE env) σ.get ⟨o.site,σ.next⟩with
   |some (v,none)=>cD r K (upd env o.dst v) σ
   |_=>False
def dh (next:Env->ar->Prop) (Q:Ex->Env->ar->Prop):Ex->Env->ar->Prop
 | .normal=>next
 |e=>Q e
def aT (id:Nat) (Q:Ex->Env->ar->Prop):Ex->Env->ar->Prop
 | .exit jJ=>if jJ=id then Q .normal else Q (.exit jJ)
 |e=>Q e
def Ez (W:(Ex->Env->ar->Prop)->Env->ar->Prop) (Q:Ex->Env->ar->Prop):Nat->Env->ar->Prop
 |0=>fun _ _=>False
 |n+1=>W (dh (Ez W Q n) Q)
def KC (t s:Nat) (y:O) (env:Env) (n:Nat):Prop:=(∃len,env t=.own ⟨s,n⟩ 0 len)/\∀id o l,cE env y=.own id o l->id.aZ≠n
def dD (X:fu):VC->(Ex->Env->ar->Prop)->Env->ar->Prop
 | .skip,Q=>Q .normal
 | .dW draw ops,Q=>wpOps X draw ops (Q .normal)
 | .seq a b,Q=>dD X a (dh (dD X b Q) Q)
 | .cond c x y,Q=>fun env σ=>match cE env c with
  | .bool b=>if b then dD X x Q env σ else dD X y Q env σ
  |_=>False
 | .block id c,Q=>dD X c (aT id Q)
 | .loop c,Q=>fun env σ=>∃n,Ez (dD X c) Q n env σ
 | .exit id,Q=>Q (.exit id)
 | .ret,Q=>Q .ret
 | .one o c,Q=>fun env σ=>if aK o.guard env then fW X false o env σ fun v σ'=>dD X c Q (upd env o.dst v) σ' else dD X c Q (upd env o.dst .undef) σ
 | .both a b,Q=>fun env σ=>dD X a Q env σ/\dD X b Q env σ
 | .loc t s y c,Q=>fun env σ=>KC t s y env σ.next/\dD X c Q env σ
 | .Mr ops,Q=>cD ops (Q .normal)
def gV (env:Env) (g:Rows):ni->Option AV
 | .tmp t=>some (env t)
 | .cell agg n t=>ld g agg n (env t)
def e5 (env:Env) (g:Rows):List ni->Option (List AV)
 |[]=>some []
 |r::l=>(gV env g r).bind fun v=>(e5 env g l).map (v::·)
def eT:List AV->AV
 |[v]=>v
 |l=>.gx l
def ck (args:List AV):Env:=fun t=>args.getD t .undef
def kb (res:List ni) (K:AV->ar->Prop):Ex->Env->ar->Prop
 | .exit _,_,_=>False
 |_,env,σ=>∃vs,e5 env σ.get res=some vs/\K (eT vs) σ
end Go.Proofs.YtgoelphibofcmaaGreat.V

namespace Go.Proofs.YtgoelphibofcmaaGreat.V
open Go.RowKit
inductive js (P:Program) (w:World) (D:Nat->Prop):AV->Value->Prop
 |int (k n):js P w D (.int k n) (.int k n)
 |bool (b):js P w D (.bool b) (.bool b)
 |str (s):js P w D (.str s) (.string s)
 |cj:js P w D .cj (.slice none 0 0)
 |gj:js P w D .gj (.pointer none)
 |iM:js P w D .iM .nilFunc
 |z8 (a c):c<=maxLen->js P w D (.sl []) (.slice a 0 c)
 |sl (rows b o n c sz) (vs:Nat->Nat->Value):rows.length=n->n<=c->c<=maxLen->D b->(∀cs∈rows,cs.length=sz)->(∀cs∈rows,∀a∈cs,a.cell=true)->
   (∀i j,i<n->j<sz->w.cell? ⟨b,o+(i*sz+j),none⟩=some (vs i j))->
   (∀i j cs a,rows[i]? =some cs->cs[j]? =some a->js P w D a (vs i j))->js P w D (.sl rows) (.slice (some ⟨b,o,none⟩) n c)
 |cr (cs b o) (vs:Nat->Value):D b->(∀a∈cs,a.cell=true)->(∀j,j<cs.length->w.cell? ⟨b,o+j,none⟩=some (vs j))->
   (∀j a,cs[j]? =some a->js P w D a (vs j))->js P w D (.cr cs) (.pointer (some ⟨b,o,none⟩))
 |agg (cs) (vs:Array Value) (f:Nat->Value):vs.size=cs.length->(∀a∈cs,a.cell=true)->(∀j,j<cs.length->vs[j]? =some (f j))->(∀j a,cs[j]? =some a->js P w D a (f j))->js P w D (.agg cs) (.agg vs)
 |fn (f cz) (vs:Array Value) (g:Nat->Value):fD P f=true->vs.size=cz.length->(∀j,j<cz.length->vs[j]? =some (g j))->(∀j a,cz[j]? =some a->js P w D a (g j))->js P w D (.fn f cz) (.func (.func f) #[] vs)
 |iX:js P w D .iX (.map none)
inductive BK where
 |map (m:MK)
 |chan (cap:Nat)
structure rz where
 b:Nat
 sz:Nat
 C:Nat
 k:Option BK
abbrev Names:=Id->Option rz
inductive cq (P:Program) (w:World) (D:Nat->Prop) (ι:Names):AV->Value->Prop
 |eF (a v):js P w D a v->cq P w D ι a v
 |own (id off len o cap B):ι id=some B->B.k=none->len<=cap->(cap=0∨o=off*B.sz)->(off+cap)*B.sz<=B.C->cap<=maxLen->cq P w D ι (.own id off len) (.slice (some ⟨B.b,o,none⟩) len cap)
 |ptr (id i off B):ι id=some B->B.k=none->cq P w D ι (.ptr id i off) (.pointer (some ⟨B.b,i*B.sz+off,none⟩))
 |agg (cs) (vs:Array Value) (f:Nat->Value):vs.size=cs.length->(∀a∈cs,a.cell=true)->(∀j,j<cs.length->vs[j]? =some (f j))->(∀j a,cs[j]? =some a->cq P w D ι a (f j))->cq P w D ι (.agg cs) (.agg vs)
 |gx (cs) (vs:Array Value) (f:Nat->Value):vs.size=cs.length->(∀j,j<cs.length->vs[j]? =some (f j))->(∀j a,cs[j]? =some a->cq P w D ι a (f j))->cq P w D ι (.gx cs) (.tuple vs)
 |fn (f cz) (vs:Array Value) (g:Nat->Value):fD P f=true->vs.size=cz.length->(∀j,j<cz.length->vs[j]? =some (g j))->(∀j a,cz[j]? =some a->cq P w D ι a (g j))->cq P w D ι (.fn f cz) (.func (.func f) #[] vs)
 |qx (id c B):ι id=some B->B.k=some (.chan c)->cq P w D ι (.qx id) (.chan (some B.b))
 |map (id m B):ι id=some B->B.k=some (.map m)->cq P w D ι (.map id m) (.map (some B.b))
 |sV (f cz) (vs:Array Value) (g:Nat->Value):fD P f=true->vs.size=cz.length->(∀j,j<cz.length->vs[j]? =some (g j))->(∀j a,cz[j]? =some a->cq P w D ι a (g j))->cq P w D ι (.sV f cz) (.func (.func f) vs #[])
variable {P:Program} {w w':World} {D D':Nat->Prop} {ι ι':Names}
theorem js.frame (hD:∀b,D b->w'.heap[b]? =w.heap[b]?) (hs:∀b,D b->D' b) {a:AV} {v:Value} (h:js P w D a v):js P w' D' a v:=by
 induction h with
 |int k n=>exact .int k n
 |bool b=>exact .bool b
 |str s=>exact .str s
 |cj=>exact .cj
 |gj=>exact .gj
 |iM=>exact .iM
 |iX=>exact .iX
 |z8 a c h=>exact .z8 a c h
 |sl rows b o n c sz vs h1 h2 h3 h4 h5 h5' h6 _ ih=>exact .sl rows b o n c sz vs h1 h2 h3 (hs b h4) h5 h5' (fun i j hi hj=>(World.cell?_of_block (hD b h4)).trans (h6 i j hi hj)) ih
 |cr cs b o vs h1 MF h2 _ ih=>exact .cr cs b o vs (hs b h1) MF (fun j hj=>(World.cell?_of_block (hD b h1)).trans (h2 j hj)) ih
 |agg cs vs f h1 h2 h3 _ ih=>exact .agg cs vs f h1 h2 h3 ih
 |fn f cz vs g h1 h2 h3 _ ih=>exact .fn f cz vs g h1 h2 h3 ih
theorem cq.frame (hD:∀b,D b->w'.heap[b]? =w.heap[b]?) (hs:∀b,D b->D' b) (hι:∀id B,ι id=some B->ι' id=some B) {a:AV} {v:Value} (h:cq P w D ι a v):cq P w' D' ι' a v:=by
 induction h with
 |eF a v h=>exact .eF a v (h.frame hD hs)
 |map id m B h1 h2=>exact .map id m B (hι _ _ h1) h2
 |qx id c B h1 h2=>exact .qx id c B (hι _ _ h1) h2
 |own id off len o cap B h1 h2 h3 h4 h5 h6=>exact .own id off len o cap B (hι _ _ h1) h2 h3 h4 h5 h6
 |ptr id i off B h1 h2=>exact .ptr id i off B (hι _ _ h1) h2
 |agg cs vs f h1 h2 h3 _ ih=>exact .agg cs vs f h1 h2 h3 ih
 |gx cs vs f h1 h2 _ ih=>exact .gx cs vs f h1 h2 ih
 |fn f cz vs g h1 h2 h3 _ ih=>exact .fn f cz vs g h1 h2 h3 ih
 |sV f cz vs g h1 h2 h3 _ ih=>exact .sV f cz vs g h1 h2 h3 ih
theorem cq.undef:cq P w D ι .undef Go.undef:=.gx [] #[] (fun _=>Go.undef) rfl (fun j hj=>by simp at hj) (fun j a h=>by simp at h)
theorem vL (c:K):cq P w D ι c.av c.val:=by
 cases c with
 |int k n=>exact .eF _ _ (.int k n)
 |bool b=>exact .eF _ _ (.bool b)
 |str l=>exact .eF _ _ (.str _)
 |cj=>exact .eF _ _ .cj
 |gj=>exact .eF _ _ .gj
 |iM=>exact .eF _ _ .iM
 |iX=>exact .eF _ _ .iX
theorem K.me (c:K):c.av.cell=true:=by cases c<;>rfl
theorem yX {v:Value} {c:K} (h:FI v=some c):v=c.val:=by
 unfold FI at h
 split at h<;>simp at h<;>subst h<;>rfl
theorem cq.Ap {a:AV} {v:Value} (h:cq P w D ι a v) (hc:a.cell=true):v.cells= #[v]/\(∀vs,v≠.agg vs)/\(∀vs,v≠.tuple vs):=by
 cases h with
 |eF a v h=>cases h<;>simp_all [AV.cell,Value.cells]
 |own=>simp[Value.cells]
 |map=>simp[Value.cells]
 |qx=>simp[Value.cells]
 |ptr=>simp[Value.cells]
 |agg=>simp[AV.cell]at hc
 |gx=>simp[AV.cell]at hc
 |fn=>simp[Value.cells]
 |sV=>simp[Value.cells]
theorem cq.cells {a:AV} {v:Value} (h:cq P w D ι a v) (ha:a.cells.all AV.cell=true):v.cells.size=a.cells.length/\∃f:Nat->Value,(∀j,j<a.cells.length->v.cells[j]? =some (f j))/\∀j x,a.cells[j]? =some x->cq P w D ι x (f j):=by
 have one:∀(a:AV) (v:Value),a.cell=true->a.cells=[a]->cq P w D ι a v->v.cells.size=a.cells.length/\∃f:Nat->Value,(∀j,j<a.cells.length->v.cells[j]? =some (f j))/\∀j x,a.cells[j]? =some x->cq P w D ι x (f j):=by
  intro a v hc dn h
  obtain⟨h1,_,_⟩:=h.Ap hc
  rw[h1,dn]
  refine⟨rfl,fun _=>v,fun j hj=>?_,fun j x hx=>?_⟩
  ·have:j=0:=by simp at hj;omega
   subst this;rfl
  ·cases j with
   |zero=>simp at hx;subst hx;exact h
   |succ j=>simp at hx
 cases h with
 |eF a v h=>
  cases h with
  |agg cs vs f h1 h2 h3 h4=>exact⟨h1,f,h3,fun j x hx=>.eF _ _ (h4 j x hx)⟩
  |_=>exact one _ _ rfl rfl (.eF _ _ (by constructor<;>assumption))
 |own id off len o cap B h1 h2 h3 h4 h5 h6=>exact one _ _ rfl rfl (.own id off len o cap B h1 h2 h3 h4 h5 h6)
 |ptr id i off B h1 h2=>exact one _ _ rfl rfl (.ptr id i off B h1 h2)
 |map id m B h1 h2=>exact one _ _ rfl rfl (.map id m B h1 h2)
 |qx id c B h1 h2=>exact one _ _ rfl rfl (.qx id c B h1 h2)
 |agg cs vs f h1 h2 h3 h4=>exact⟨h1,f,h3,h4⟩
 |gx cs vs f h1 h2 h3=>simp[AV.cells,AV.cell]at ha
 |fn f cz vs g h1 h2 h3 h4=>exact one _ _ rfl rfl (.fn f cz vs g h1 h2 h3 h4)
 |sV f cz vs g h1 h2 h3 h4=>exact one _ _ rfl rfl (.sV f cz vs g h1 h2 h3 h4)
structure lf (P:Program) (w:World) (D:Nat->Prop) (ι:Names) (B:rz) (r:Row):Prop where
 sz:B.sz=r.sz
 wH:∃cells T,w.heap[B.b]? =some (.cells cells T (0,0))/\cells.size=B.C
 fits:r.rows.length*r.sz<=B.C
 len:∀cs∈r.rows,cs.length=r.sz
 flat:∀cs∈r.rows,∀a∈cs,a.cell=true
 at_:∀i j cs a,r.rows[i]? =some cs->cs[j]? =some a->∃v,w.cell? ⟨B.b,i*r.sz+j,none⟩=some v/\cq P w D ι a v
def JM (es:Array MapEntry) (clock:Nat):Prop:=(∀x∈es.toList,x.born<clock)/\(es.toList.map (·.born)).Nodup
def Ll (P:Program) (w:World) (D:Nat->Prop) (ι:Names) (B:rz) (m:MK) (r:Row):Prop:=
 ∃(es:Array MapEntry) (clock:Nat),w.heap[B.b]? =some (.map es clock)/\es.size=r.rows.length/\((∀cs∈r.rows,cs.length=m.ks+1)/\JM es clock)/\
  ∀(i:Nat) (cs:List AV),r.rows[i]? =some cs->∃(e:MapEntry) (kv vv:AV),es[i]? =some e/\part m.ka m.ks cs=some kv/\cs[m.ks]? =some vv/\cq P w D ι kv e.key/\cq P w D ι vv e.val
def GV (P:Program) (w:World) (D:Nat->Prop) (ι:Names) (B:rz) (c:Nat) (r:Row):Prop:=
 ∃(buf:Array Value) (s q:Nat),w.heap[B.b]? =some (.chan c buf false s q false)/\buf.size=r.rows.length/\
  ∀(i:Nat) (cs:List AV),r.rows[i]? =some cs->∃(a:AV) (u:Value),cs=[a]/\buf[i]? =some u/\cq P w D ι a u
structure gq (P:Program) (w:World) (D:Nat->Prop) (ι:Names) (B:rz) (r:Row):Prop where
 sz:B.sz=r.sz
 flat:∀cs∈r.rows,∀a∈cs,a.cell=true
 row:B.k=none->lf P w D ι B r
 map:∀m,B.k=some (.map m)->r.sz=m.nA/\Ll P w D ι B m r
 chan:∀c,B.k=some (.chan c)->r.sz=pM+c/\GV P w D ι B c r
theorem lf.obj {B:rz} {r:Row} (R:lf P w D ι B r) (h:B.k=none):gq P w D ι B r:=⟨R.sz,R.flat,fun _=>R,fun m hm=>(by rw[h]at hm;cases hm),fun m hm=>by rw[h]at hm;cases hm⟩
theorem gq.flag {B:rz} {r:Row} (R:gq P w D ι B r) (b:Bool):gq P w D ι B {r with w:=b}:=⟨R.sz,R.flat,fun h=>⟨R.sz,(R.row h).wH,(R.row h).fits,(R.row h).len,R.flat,(R.row h).at_⟩,R.map,R.chan⟩
theorem gq.cells {B:rz} {r:Row} (R:gq P w D ι B r) (h:r.sz<qM):B.k=none:=by
 cases hk:B.k with
 |none=>rfl
 |some m=>
  cases m with
  |map m=>
   have h1:=(R.map m hk).1
   unfold MK.nA at h1
   omega
  |chan c=>
   have h1:=(R.chan c hk).1
   unfold pM at h1
   unfold qM at h
   omega
theorem gq.KI {B:rz} {r:Row} (R:gq P w D ι B r) {c:Array Value} {T:TypeId} {z:Nat×Nat} (h:w.heap[B.b]? =some (.cells c T z)):B.k=none:=by
 cases hk:B.k with
 |none=>rfl
 |some m=>
  cases m with
  |map m=>obtain⟨_,es,c,h3,_⟩:=R.map m hk;rw[h]at h3;cases h3
  |chan c=>obtain⟨_,buf,s,q,h3,_⟩:=R.chan c hk;rw[h]at h3;cases h3
theorem gq.lt {B:rz} {r:Row} (R:gq P w D ι B r):B.b<w.heap.size:=by
 cases h:B.k with
 |none=>
  obtain⟨c,T,h3,_⟩:=(R.row h).wH
  exact(Array.getElem?_eq_some_iff.1 h3).1
 |some m=>
  cases m with
  |map m=>obtain⟨_,es,c,h3,_⟩:=R.map m h;exact(Array.getElem?_eq_some_iff.1 h3).1
  |chan c=>obtain⟨_,buf,s,q,h3,_⟩:=R.chan c h;exact(Array.getElem?_eq_some_iff.1 h3).1
structure fU (P:Program) (hs:Nat) (D:Nat->Prop) (ι:Names) (g:Rows) (w:World):Prop where
 lo:hs<=w.heap.size
 dead:∀b,D b->b<w.heap.size
 row:∀id r,g id=some r->∃B,ι id=some B/\gq P w D ι B r/\(r.w=true->hs<=B.b)/\(r.w=true->¬D B.b)
 inj:∀id jJ r r' B B',g id=some r->g jJ=some r'->r.w=true->ι id=some B->ι jJ=some B'->B.b=B'.b->id=jJ
def Used (ι:Names) (n:Nat) (U:Nat->Prop):Prop:=∀id,ι id≠none->id.aZ<n∨(id.aZ=n/\U id.site)
structure Step (hs:Nat) (D:Nat->Prop) (ι:Names) (w:World) (D':Nat->Prop) (ι':Names) (w':World):Prop where
 below:Below hs w w'
 pg:∀b,D b->w'.heap[b]? =w.heap[b]?
 dead:∀b,D b->D' b
 names:∀id B,ι id=some B->ι' id=some B
 new:∀b,D' b->D b∨hs<=b
theorem Step.refl (hs:Nat) (D:Nat->Prop) (ι:Names) (w:World):Step hs D ι w D ι w:=⟨Below.refl _ _,fun _ _=>rfl,fun _ h=>h,fun _ _ h=>h,fun _ h=>.inl h⟩
theorem Step.trans {hs:Nat} {D D' D'':Nat->Prop} {ι ι' QM:Names} {w w' JI:World} (h:Step hs D ι w D' ι' w') (k:Step hs D' ι' w' D'' QM JI):Step hs D ι w D'' QM JI:=
 ⟨h.below.trans k.below,fun b hb=>(k.pg b (h.dead b hb)).trans (h.pg b hb),fun b hb=>k.dead b (h.dead b hb),fun id B hB=>k.names id B (h.names id B hB),fun b hb=>by
  rcases k.new b hb with hb|hb
  ·exact h.new b hb
  ·exact .inr hb⟩
theorem Step.rep {hs:Nat} {D D':Nat->Prop} {ι ι':Names} {w w':World} (h:Step hs D ι w D' ι' w') {a:AV} {v:Value} (hr:cq P w D ι a v):cq P w' D' ι' a v:=hr.frame h.pg h.dead h.names
theorem dp {k n} {v:Value} (h:cq P w D ι (.int k n) v):v=.int k n:=by
 cases h with
 |eF _ _ h=>cases h;rfl
theorem eX {b} {v:Value} (h:cq P w D ι (.bool b) v):v=.bool b:=by
 cases h with
 |eF _ _ h=>cases h;rfl
theorem fq {s} {v:Value} (h:cq P w D ι (.str s) v):v=.string s:=by
 cases h with
 |eF _ _ h=>cases h;rfl
theorem jT {v:Value} (h:cq P w D ι .cj v):v=.slice none 0 0:=by
 cases h with
 |eF _ _ h=>cases h;rfl
theorem vM {v:Value} (h:cq P w D ι .iM v):v=.nilFunc:=by
 cases h with
 |eF _ _ h=>cases h;rfl
theorem iF {cs} {v:Value} (h:cq P w D ι (.agg cs) v):∃(vs:Array Value) (f:Nat->Value),v=.agg vs/\vs.size=cs.length/\(∀a∈cs,a.cell=true)/\(∀j,j<cs.length->vs[j]? =some (f j))/\∀j a,cs[j]? =some a->cq P w D ι a (f j):=by
 cases h with
 |eF _ _ h=>
  cases h with
  |agg cs vs f h1 h2 h3 h4=>exact⟨vs,f,rfl,h1,h2,h3,fun j a h=>.eF _ _ (h4 j a h)⟩
 |agg cs vs f h1 h2 h3 h4=>exact⟨vs,f,rfl,h1,h2,h3,h4⟩
theorem tT {cs} {v:Value} (h:cq P w D ι (.gx cs) v):∃(vs:Array Value) (f:Nat->Value),v=.tuple vs/\vs.size=cs.length/\(∀j,j<cs.length->vs[j]? =some (f j))/\∀j a,cs[j]? =some a->cq P w D ι a (f j):=by
 cases h with
 |eF _ _ h=>cases h
 |gx cs vs f h1 h2 h3=>exact⟨vs,f,rfl,h1,h2,h3⟩
theorem zr {f cz} {v:Value} (h:cq P w D ι (.fn f cz) v):∃(vs:Array Value) (g:Nat->Value),v=.func (.func f) #[] vs/\fD P f=true/\vs.size=cz.length/\(∀j,j<cz.length->vs[j]? =some (g j))/\∀j a,cz[j]? =some a->cq P w D ι a (g j):=by
 cases h with
 |eF _ _ h=>
  cases h with
  |fn f cz vs g h1 h2 h3 h4=>exact⟨vs,g,rfl,h1,h2,h3,fun j a h=>.eF _ _ (h4 j a h)⟩
 |fn f cz vs g h1 h2 h3 h4=>exact⟨vs,g,rfl,h1,h2,h3,h4⟩
theorem IB {v:Value} (h:cq P w D ι .gj v):v=.pointer none:=by
 cases h with
 |eF _ _ h=>cases h;rfl
theorem Bt {v:Value} (h:cq P w D ι .iX v):v=.map none:=by
 cases h with
 |eF _ _ h=>cases h;rfl
theorem KW {f cz} {v:Value} (h:cq P w D ι (.sV f cz) v):∃(vs:Array Value) (g:Nat->Value),v=.func (.func f) vs #[]/\fD P f=true/\vs.size=cz.length/\(∀j,j<cz.length->vs[j]? =some (g j))/\∀j a,cz[j]? =some a->cq P w D ι a (g j):=by
 cases h with
 |eF _ _ h=>cases h
 |sV f cz vs g h1 h2 h3 h4=>exact⟨vs,g,rfl,h1,h2,h3,h4⟩
theorem iG {id off len} {v:Value} (h:cq P w D ι (.own id off len) v):∃o cap B,v=.slice (some ⟨B.b,o,none⟩) len cap/\ι id=some B/\len<=cap/\(cap=0∨o=off*B.sz)/\(off+cap)*B.sz<=B.C/\cap<=maxLen/\B.k=none:=by
 cases h with
 |eF _ _ h=>cases h
 |own id off len o cap B h1 h2 h3 h4 h5 h6=>exact⟨o,cap,B,rfl,h1,h3,h4,h5,h6,h2⟩
theorem ir {id i off} {v:Value} (h:cq P w D ι (.ptr id i off) v):∃B,v=.pointer (some ⟨B.b,i*B.sz+off,none⟩)/\ι id=some B/\B.k=none:=by
 cases h with
 |eF _ _ h=>cases h
 |ptr id i off B h1 h2=>exact⟨B,rfl,h1,h2⟩
theorem KU {id} {v:Value} (h:cq P w D ι (.qx id) v):∃B c,v=.chan (some B.b)/\ι id=some B/\B.k=some (.chan c):=by
 cases h with
 |eF _ _ h=>cases h
 |qx id c B h1 h2=>exact⟨B,c,rfl,h1,h2⟩
theorem EF {id m} {v:Value} (h:cq P w D ι (.map id m) v):∃B,v=.map (some B.b)/\ι id=some B/\B.k=some (.map m):=by
 cases h with
 |eF _ _ h=>cases h
 |map id m B h1 h2=>exact⟨B,rfl,h1,h2⟩
theorem kI {cs} {v:Value} (h:cq P w D ι (.cr cs) v):∃b o,∃vs:Nat->Value,v=.pointer (some ⟨b,o,none⟩)/\D b/\(∀a∈cs,a.cell=true)/\(∀j,j<cs.length->w.cell? ⟨b,o+j,none⟩=some (vs j))/\∀j a,cs[j]? =some a->js P w D a (vs j):=by
 cases h with
 |eF _ _ h=>
  cases h with
  |cr cs b o vs h1 h2 h3 h4=>exact⟨b,o,vs,rfl,h1,h2,h3,h4⟩
theorem vN {rows} {v:Value} (h:cq P w D ι (.sl rows) v):∃A c,v=.slice A rows.length c/\rows.length<=c/\c<=maxLen/\
  (rows=[]∨∃b o sz,∃vs:Nat->Nat->Value,A=some ⟨b,o,none⟩/\D b/\(∀cs∈rows,cs.length=sz)/\(∀cs∈rows,∀a∈cs,a.cell=true)/\
   (∀i j,i<rows.length->j<sz->w.cell? ⟨b,o+(i*sz+j),none⟩=some (vs i j))/\∀i j cs a,rows[i]? =some cs->cs[j]? =some a->js P w D a (vs i j)):=by
 cases h with
 |eF _ _ h=>
  cases h with
  |z8 a c h=>exact⟨a,c,rfl,Nat.zero_le _,h,.inl rfl⟩
  |sl rows b o n c sz vs h1 h2 h3 h4 h5 h5' h6 h7=>subst h1;exact⟨_,c,rfl,h2,h3,.inr ⟨b,o,sz,vs,rfl,h4,h5,h5',h6,h7⟩⟩
inductive dZ:AV->Prop
 |int (k n):dZ (.int k n)
 |bool (b):dZ (.bool b)
 |str (s):dZ (.str s)
 |cj:dZ .cj
 |gj:dZ .gj
 |iM:dZ .iM
 |sl (rows):rows.length<=maxLen->(∀cs∈rows,∀a∈cs,dZ a)->dZ (.sl rows)
 |own (id off len):dZ (.own id off len)
 |ptr (id i off):dZ (.ptr id i off)
 |cr (cs):(∀a∈cs,dZ a)->dZ (.cr cs)
 |agg (cs):(∀a∈cs,dZ a)->dZ (.agg cs)
 |gx (cs):(∀a∈cs,dZ a)->dZ (.gx cs)
 |fn (f cz):(∀a∈cz,dZ a)->dZ (.fn f cz)
 |map (id m):dZ (.map id m)
 |qx (id):dZ (.qx id)
 |iX:dZ .iX
 |sV (f cz):(∀a∈cz,dZ a)->dZ (.sV f cz)
theorem dZ.len {rows:List (List AV)} (h:dZ (.sl rows)):rows.length<=9223372036854775807:=by
 cases h with
 |sl _ h _=>unfold maxLen at h;omega
theorem dZ.cell {rows:List (List AV)} (h:dZ (.sl rows)) {cs:List AV} (hc:cs∈rows) {a:AV} (ha:a∈cs):dZ a:=by
 cases h with
 |sl _ _ h=>exact h cs hc a ha
theorem dZ.Mf {cs:List AV} (h:dZ (.agg cs)) {a:AV} (ha:a∈cs):dZ a:=by
 cases h with
 |agg _ h=>exact h a ha
theorem dZ.A7 {cs:List AV} (h:dZ (.cr cs)) {a:AV} (ha:a∈cs):dZ a:=by
 cases h with
 |cr _ h=>exact h a ha
theorem oh {l:List AV} {p:AV->Prop} (h:∀(j:Nat) (a:AV),l[j]? =some a->p a):∀a∈l,p a:=fun a ha=>by
 obtain⟨j,hj,rfl⟩:=List.getElem_of_mem ha
 exact h j _ (List.getElem?_eq_getElem hj)
theorem js.Ie {a:AV} {v:Value} (h:js P w D a v):dZ a:=by
 induction h with
 |int k n=>exact .int k n
 |bool b=>exact .bool b
 |str s=>exact .str s
 |cj=>exact .cj
 |gj=>exact .gj
 |iM=>exact .iM
 |iX=>exact .iX
 |z8 a c h=>exact .sl [] (Nat.zero_le _) (fun cs h=>by cases h)
 |sl rows b o n c sz vs h1 h2 h3 h4 h5 h5' h6 _ ih=>
  exact .sl rows (by omega) fun cs dn a ha=>by
   obtain⟨i,hi,rfl⟩:=List.getElem_of_mem dn
   obtain⟨j,hj,rfl⟩:=List.getElem_of_mem ha
   exact ih i j _ _ (List.getElem?_eq_getElem hi) (List.getElem?_eq_getElem hj)
 |cr cs b o vs h1 MF h2 _ ih=>exact .cr cs (oh ih)
 |agg cs vs f h1 h2 h3 _ ih=>exact .agg cs (oh ih)
 |fn f cz vs g h1 h2 h3 _ ih=>exact .fn f cz (oh ih)
theorem cq.Ie {a:AV} {v:Value} (h:cq P w D ι a v):dZ a:=by
 induction h with
 |eF a v h=>exact h.Ie
 |own id off len o cap B=>exact .own _ _ _
 |ptr id i off B=>exact .ptr _ _ _
 |map id m B=>exact .map _ _
 |qx id c B=>exact .qx _
 |agg cs vs f h1 h2 h3 _ ih=>exact .agg cs (oh ih)
 |gx cs vs f h1 h2 _ ih=>exact .gx cs (oh ih)
 |fn f cz vs g h1 h2 h3 _ ih=>exact .fn f cz (oh ih)
 |sV f cz vs g h1 h2 h3 _ ih=>exact .sV f cz (oh ih)
end Go.Proofs.YtgoelphibofcmaaGreat.V

namespace Go.Proofs.YtgoelphibofcmaaGreat.V
open Go.RowKit
variable {P:Program} {w w':World} {D D':Nat->Prop} {ι ι':Names}
def bD (P:Program) (w:World) (D:Nat->Prop) (ι:Names) (env:Env) (a:Act):Prop:=∀t,cq P w D ι (env t) (a.tmps.getD t undef)
theorem qK {vs:List Value} {cs:List K} (h:vs.mapM FI=some cs):cs.length=vs.length/\∀(j:Nat) (c:K),cs[j]? =some c->vs[j]? =some c.val:=by
 induction vs generalizing cs with
 |nil=>simp at h;subst h;simp
 |cons v r ih=>
  simp only[List.mapM_cons,Option.bind_eq_bind,Option.bind_eq_some_iff]at h
  obtain⟨c,hc,pq,dn,h⟩:=h
  simp at h;subst h
  obtain⟨h1,h2⟩:=ih dn
  refine⟨by simp[h1],fun j d hd=>?_⟩
  cases j with
  |zero=>simp at hd ⊢;subst hd;exact yX hc
  |succ j=>simp at hd ⊢;exact h2 j d hd
theorem Tk {vs:List Value} {cs:List K} (h:vs.mapM FI=some cs):cq P w D ι (.agg (cs.map K.av)) (.agg vs.toArray):=by
 obtain⟨h1,h2⟩:=qK h
 refine .agg _ _ (fun j=>vs.getD j undef) (by simp[h1]) (fun a ha=>?_) (fun j hj=>?_) (fun j a ha=>?_)
 ·obtain⟨c,_,rfl⟩:=List.mem_map.1 ha;exact c.me
 ·simp at hj;simp[List.getElem?_eq_getElem (show j<vs.length by omega)]
 ·simp only[List.getElem?_map,Option.map_eq_some_iff]at ha
  obtain⟨c,hc,rfl⟩:=ha
  rw[List.getD_eq_getElem?_getD,h2 j c hc];exact vL c
theorem cJ {env:Env} {a:Act} {x:Operand} {y:O} (E:bD P w D ι env a) (h:cO P x=some y):cq P w D ι (cE env y) (a.eval x):=by
 unfold cO at h
 split at h
 ·simp at h;subst h;exact E _
 ·simp only[Option.map_eq_some_iff]at h
  obtain⟨cs,dn,rfl⟩:=h
  have:=Tk (P:=P) (w:=w) (D:=D) (ι:=ι) dn
  simpa[Act.eval,cE]using this
 ·simp only[Option.map_eq_some_iff]at h
  obtain⟨c,hc,rfl⟩:=h
  simp only[Act.eval,cE]
  rw[yX hc];exact vL c
 ·simp at h
 ·split at h
  ·rename_i hc
   simp at h;subst h
   simp only[Act.eval,cE]
   exact .fn _ _ _ (fun _=>undef) hc rfl (fun j hj=>by simp at hj) (fun j a h=>by simp at h)
  ·simp at h
def nJ (P:Program) (a:Act) (o:Oper) (w:World) (D:Nat->Prop) (ι:Names) (v:AV):Prop:=∃u,(execOp a.eval o).run P w=.ok (.value u) w/\cq P w D ι v u
section
variable {g:Rows} {hs:Nat} {env:Env} {a:Act} {o:Oper} {id:Id} {v:AV}
theorem L5 {x:Operand} {y:O} (E:bD P w D ι env a) (ho:o.op=.move x∨o.op=.assign x) (hx:cO P x=some y):nJ P a o w D ι (cE env y):=by
 refine⟨a.eval x,?_,cJ E hx⟩
 rcases ho with h|h<;>simp[execOp,h,go_sem]
theorem Ol {c x y:Operand} {c' x' y':O} (E:bD P w D ι env a) (ho:o.op=.pick c x y) (hc:cO P c=some c') (hx:cO P x=some x') (hy:cO P y=some y') (hv:da (cE env c') (cE env x') (cE env y')=some v):nJ P a o w D ι v:=by
 unfold da at hv
 split at hv
 ·rename_i b hb
  simp at hv;subst hv
  have h1:=eX (hb▸cJ E hc)
  refine⟨if b then a.eval x else a.eval y,by simp only[execOp,ho,h1,asBool];rfl,?_⟩
  cases b
  ·exact cJ E hy
  ·exact cJ E hx
 ·simp at hv
theorem QB {op:BinOp} {x y:Operand} {x' y':O} {t yt:TypeId} (E:bD P w D ι env a) (ho:o.op=.binOp op t x y yt) (he:op≠.eql) (hn:op≠.neq) (hx:cO P x=some x') (hy:cO P y=some y') (hv:ev op (cE env x') (cE env y')=some v):nJ P a o w D ι v:=by
 unfold ev at hv
 split at hv
 ·rename_i k n k' m hb rR
  split at hv
  ·rename_i hk
   subst hk
   have h1:=dp (hb▸cJ E hx)
   have h2:=dp (rR▸cJ E hy)
   have key:∀u,(binOp op t (.int k n) (.int k m)).run P w=.ok u w->(execOp a.eval o).run P w=.ok (.value u) w:=fun u hu=>by
    have e0:eqGuard op t x y (.int k n) (.int k m)=pure ():=by unfold eqGuard;cases op<;>rfl
    simp only[execOp,ho,h1,h2,e0]
    simp[go_sem,hu]
   cases op<;>simp only[dO]at hv<;>(try(simp at hv;done))<;>(try split at hv)<;>(try(simp at hv;done))<;>simp only[Option.some.injEq]at hv<;>subst hv<;>
    (refine⟨_,key _ (by simp only[binOp,ne_eq,not_true_eq_false,if_false,Op.intArith,Op.intDiv,Op.intBits,Op.intCmp, *];rfl),?_⟩)<;>
    first
     |exact .eF _ _ (.int _ _)
     |exact .eF _ _ (.bool _)
  ·simp at hv
 ·simp at hv
theorem N6 {op:BinOp} {x y:Operand} {x' y':O} {t yt:TypeId} (E:bD P w D ι env a) (ho:o.op=.binOp op t x y yt) (he:op≠.eql) (hn:op≠.neq) (hx:cO P x=some x') (hy:cO P y=some y') (hv:db op (cE env x') (cE env y')=some v):nJ P a o w D ι v:=by
 unfold db at hv
 split at hv
 ·rename_i n m hb rR
  have h1:=fq (hb▸cJ E hx)
  have h2:=fq (rR▸cJ E hy)
  cases op<;>simp only[eI]at hv<;>(try(simp at hv;done))
  case add=>
   split at hv
   ·rename_i hl
    simp only[Option.some.injEq]at hv;subst hv
    exact⟨_,by simp only[execOp,ho,h1,h2];simp[eqGuard,binOp,go_sem];exact hl,.eF _ _ (.str _)⟩
   ·simp at hv
  all_goals
   simp only[Option.some.injEq]at hv;subst hv
   exact⟨_,by simp only[execOp,ho,h1,h2];simp[eqGuard,binOp,Op.stringOp,go_sem],.eF _ _ (.bool _)⟩
 ·simp at hv
theorem EJ (n m:ByteArray):(n.toList==m.toList)=decide (n=m):=by
 rw[ByteArray.toList_eq,ByteArray.toList_eq]
 by_cases h:n=m
 ·subst h;simp
 ·have:n.data.toList≠m.data.toList:=fun he=>h (ByteArray.ext (Array.ext' he))
  rw[decide_eq_false h];exact beq_eq_false_iff_ne.2 this
theorem oO {t:TypeId} (h:fa P t=some .tB):P.underlying t=some .bool:=by unfold fa at h;split at h<;>simp_all
theorem oP {t:TypeId} (h:fa P t=some .tI):∃k,P.underlying t=some (.int k):=by unfold fa at h;split at h<;>simp_all
theorem oQ {t:TypeId} (h:fa P t=some .tS):P.underlying t=some .string:=by unfold fa at h;split at h<;>simp_all
theorem qU {d:Nat} {t:TypeId} {s:TS} {x y:AV} {u u':Value} {b:Bool} (hx:cq P w D ι x u) (hy:cq P w D ι y u') (hv:gr s x y=some b) (ht:fa P t=some s):(Op.equalIn (d+1) t u u').run P w=.ok b w:=by
 unfold gr at hv
 split at hv
 ·rename_i k n k' m
  split at hv
  ·rename_i hk
   subst hk
   simp at hv;subst hv
   obtain⟨q,hq⟩:=oP ht
   rw[dp hx,dp hy,run_equalIn_int _ _ _ _ _ _ _ hq];rfl
  ·simp at hv
 ·simp at hv;subst hv
  rw[eX hx,eX hy,run_equalIn_bool' _ _ _ _ _ (oO ht)]
 ·simp at hv;subst hv
  rw[fq hx,fq hy,run_equalIn_string _ _ _ _ _ (oQ ht),EJ]
 ·simp at hv
def fh (P:Program) (w:World) (D:Nat->Prop) (ι:Names) (xs:List AV) (vs:Array Value):Prop:=vs.size=xs.length/\∀(j:Nat) (a:AV),xs[j]? =some a->∃u,vs[j]? =some u/\cq P w D ι a u
theorem fh.part {xs:List AV} {vs:Array Value} (h:fh P w D ι xs vs) (off n:Nat) (hn:off+n<=xs.length):fh P w D ι ((xs.drop off).take n) (vs.extract off (off+n)):=by
 refine⟨by simp[h.1];omega,fun j a ha=>?_⟩
 rw[List.getElem?_take]at ha
 split at ha
 ·rename_i hj
  rw[List.getElem?_drop]at ha
  obtain⟨u,h1,h2⟩:=h.2 _ _ ha
  refine⟨u,?_,h2⟩
  rw[Array.getElem?_extract]
  rw[if_pos (by rw[h.1];omega),h1]
 ·simp at ha
theorem qz:∀{ts:List TS} {xs ys:List AV} {b:Bool},e8 ts xs ys=some b->xs.length=ts.length/\ys.length=ts.length
 |[],[],[],_,_=>⟨rfl,rfl⟩
 |t::ts,x::xs,y::ys,b,h=>by
  unfold e8 at h
  split at h
  ·rename_i c d h1 h2
   have:=qz h2
   simp[this.1,this.2]
  ·simp at h
 |[],[],_::_,_,h=>by simp[e8]at h
 |[],_::_,_,_,h=>by simp[e8]at h
 |_::_,[],_,_,h=>by simp[e8]at h
 |_::_,_::_,[],_,h=>by simp[e8]at h
theorem Eb:∀{ts us:List TS} {xs ys:List AV} {b:Bool},e8 (ts++us) xs ys=some b->∃c d,e8 ts (xs.take ts.length) (ys.take ts.length)=some c/\e8 us (xs.drop ts.length) (ys.drop ts.length)=some d/\b=(c&&d)
 |[],us,xs,ys,b,h=>⟨true,b,by simp[e8],by simpa using h,by simp⟩
 |t::ts,us,x::xs,y::ys,b,h=>by
  simp only[List.cons_append]at h
  unfold e8 at h
  split at h
  ·rename_i c d h1 h2
   obtain⟨c',d',h3,h4,rfl⟩:=Eb h2
   simp at h;subst h
   exact⟨c&&c',d',by simp[e8,h1,h3],by simpa using h4,by simp[Bool.and_assoc]⟩
  ·simp at h
 |t::ts,us,[],ys,b,h=>by simp[e8]at h
 |t::ts,us,x::xs,[],b,h=>by simp[e8]at h
theorem lW {t:TypeId} {vs:Array Value} {off:Nat} {u:Value} (ha:nr P t=some false) (hu:vs[off]? =some u):(Go.part t vs off).run P w=.ok u w:=by
 unfold nr at ha
 have hi:(isAgg t).run P w=.ok false w:=by
  split at ha<;>simp at ha
  rename_i d h1 h2 hd
  simp only[isAgg,Sem.run_bind,run_underlying hd,Result.andThen_ok]
  cases d<;>simp_all
 simp[Go.part,hi,hu]
theorem sa {t:TypeId} {b:Bool} (ha:nr P t=some b):(isAgg t).run P w=.ok b w:=by
 unfold nr at ha
 split at ha<;>simp at ha<;>subst ha<;>rename_i hd<;>simp only[isAgg,Sem.run_bind,run_underlying hd,Result.andThen_ok]<;>(try simp)
theorem run_sizeOf {t:TypeId} {n:Nat} (h:dI P t=some n):(sizeOf t).run P w=.ok n w:=by
 unfold dI at h
 simp only[Option.map_eq_some_iff]at h
 obtain⟨i,hi,rfl⟩:=h
 simp[sizeOf,typeInfo,hi]
theorem oN {t:TypeId} {vs:Array Value} {off n:Nat} (ha:nr P t=some true) (hn:dI P t=some n):(Go.part t vs off).run P w=.ok (.agg (vs.extract off (off+n))) w:=by
 simp[Go.part,sa ha,run_sizeOf hn]
theorem HA (d off:Nat):ee P (d+1) off []=some []:=rfl
theorem xu (d off:Nat) (f:Field) (r:List Field):ee P (d+1) off (f::r)=(if f.offset=off/\f.name≠ "_" then
   match fa P f.type with
   |some t=>if nr P f.type=some false then(ee P (d+1) (off+1) r).map (t::·)else none
   |none=>match P.underlying f.type with
    |some (.struct fs)=>if !P.stoodInHeld f.type then match ee P d 0 fs.toList with
     |some ts=>if dI P f.type=some ts.length/\ts≠[]then(ee P (d+1) (off+ts.length) r).map (ts++·)else none
     |none=>none else none
    |_=>none
  else none):=rfl
theorem qT:∀(d:Nat) (fs:List Field) (off:Nat) (ts:List TS),ee P d off fs=some ts->∀(N:Nat) (_:d<=N) (xs ys:List AV) (vs us:Array Value) (b:Bool),fh P w D ι xs vs->fh P w D ι ys us->
  e8 ts ((xs.drop off).take ts.length) ((ys.drop off).take ts.length)=some b->(Op.eqFields (N+1) vs us fs).run P w=.ok b w:=by
 intro d
 induction d with
 |zero=>
  intro fs off ts hf N _ xs ys vs us b _ _ he
  cases fs with
  |nil=>simp[ee]at hf;subst hf;simp[e8]at he;subst he;simp[Op.eqFields]
  |cons f r=>simp[ee]at hf
 |succ d ihd=>
  intro fs
  induction fs with
  |nil=>
   intro off ts hf N _ xs ys vs us b _ _ he
   rw[HA]at hf;simp at hf;subst hf;simp[e8]at he;subst he;simp[Op.eqFields]
  |cons f r ih=>
   intro off ts hf N hN xs ys vs us b hx hy he
   rw[xu]at hf
   split at hf
   ·rename_i hcond
    obtain⟨ho,fZ⟩:=hcond
    split at hf
    ·rename_i s hs
     split at hf
     ·rename_i tH
      simp only[Option.map_eq_some_iff]at hf
      obtain⟨L3,hr,rfl⟩:=hf
      obtain⟨l1,l2⟩:=qz he
      simp only[List.length_cons,List.length_take,List.length_drop]at l1 l2
      have tp:off<xs.length:=by omega
      have hyo:off<ys.length:=by omega
      rw[List.drop_eq_getElem_cons tp,List.drop_eq_getElem_cons hyo,List.length_cons,List.take_succ_cons,List.take_succ_cons]at he
      unfold e8 at he
      split at he
      ·rename_i c d' h1 h2
       simp at he;subst he
       obtain⟨u,hu,ru⟩:=hx.2 off _ (List.getElem?_eq_getElem tp)
       obtain⟨u',Er,ru'⟩:=hy.2 off _ (List.getElem?_eq_getElem hyo)
       have:=ih (off+1) L3 hr N hN xs ys vs us d' hx hy h2
       simp only[Op.eqFields,if_pos fZ,Sem.run_bind,ho,lW tH hu,lW tH Er,Result.andThen_ok,qU ru ru' h1 hs,Sem.run_ite]
       cases c<;>simp[this]
      ·simp at he
     ·simp at hf
    ·split at hf
     ·rename_i fs' qD
      split at hf
      ·rename_i dc
       split at hf
       ·rename_i ts1 hts1
        split at hf
        ·rename_i e9
         simp only[Option.map_eq_some_iff]at hf
         obtain⟨L3,hr,rfl⟩:=hf
         obtain⟨c,d',h1,h2,rfl⟩:=Eb he
         obtain⟨l1,l2⟩:=qz he
         simp only[List.length_append,List.length_take,List.length_drop]at l1 l2
         have tH:nr P f.type=some true:=by simp[nr,qD]
         have k5:0<ts1.length:=List.length_pos_iff.2 e9.2
         have LP:off+ts1.length<=xs.length:=by omega
         have hy1:off+ts1.length<=ys.length:=by omega
         rw[List.drop_take,List.drop_drop,List.drop_take,List.drop_drop]at h2
         rw[List.take_take,List.take_take]at h1
         simp only[List.length_append]at h1 h2
         rw[Nat.min_eq_left (by omega)]at h1
         have e2:ts1.length+L3.length-ts1.length=L3.length:=by omega
         rw[e2]at h2
         have:=ih (off+ts1.length) L3 hr N hN xs ys vs us d' hx hy h2
         have fB:=ihd fs'.toList 0 ts1 hts1 (N-1) (by omega) _ _ _ _ c (hx.part off ts1.length LP) (hy.part off ts1.length hy1) (by simpa[List.take_take]using h1)
         have hN':N-1+1=N:=by omega
         rw[hN']at fB
         have LC:P.fieldsOf f.type=fs':=by simp[Program.fieldsOf,qD]
         simp only[Op.eqFields,if_pos fZ,Sem.run_bind,ho,oN tH e9.1,Result.andThen_ok,Sem.run_ite]
         rw[run_equalIn_struct w N f.type _ _ (by rw[LC];exact qD) (by simpa using dc),LC,fB]
         cases c<;>simp[this]
        ·simp at hf
       ·simp at hf
      ·simp at hf
     ·simp at hf
   ·simp at hf
theorem QF {x y:Operand} {x' y':O} {t yt:TypeId} {neg:Bool} {s:TS} {b:Bool} (E:bD P w D ι env a) (ho:o.op=.binOp (if neg then .neq else .eql) t x y yt) (hs:fa P t=some s) (hx:cO P x=some x') (hy:cO P y=some y')
  (hv:gr s (cE env x') (cE env y')=some b):nJ P a o w D ι (.bool (dx neg b)):=by
 have rx:=cJ E hx
 have ry:=cJ E hy
 refine⟨.bool (dx neg b),?_,.eF _ _ (.bool _)⟩
 have e0:(eqGuard (if neg then .neq else .eql) t x y (a.eval x) (a.eval y)).run P w=.ok () w:=by
  unfold gr at hv
  split at hv
  ·rename_i k n k' m h1 h2
   rw[h1]at rx;rw[h2]at ry
   rw[dp rx,dp ry];unfold eqGuard;cases neg<;>simp
  ·rename_i n m h1 h2
   rw[h1]at rx;rw[h2]at ry
   rw[eX rx,eX ry];unfold eqGuard;cases neg<;>simp
  ·rename_i n m h1 h2
   rw[h1]at rx;rw[h2]at ry
   rw[fq rx,fq ry];unfold eqGuard;cases neg<;>simp
  ·simp at hv
 have e1:(binOp (if neg then .neq else .eql) t (a.eval x) (a.eval y)).run P w=.ok (.bool (dx neg b)) w:=by
  have q:=qU (d:=9999) rx ry hv hs
  unfold gr at hv
  split at hv
  ·rename_i k n k' m h1 h2
   split at hv
   ·rename_i hk
    subst hk
    simp at hv;subst hv
    rw[h1]at rx;rw[h2]at ry
    rw[dp rx,dp ry]
    cases neg<;>simp only[binOp,ne_eq,not_true_eq_false,if_false,Op.intCmp,dx,if_true,Bool.false_eq_true]<;>simp[bne]<;>rfl
   ·simp at hv
  ·rename_i n m h1 h2
   rw[h1]at rx;rw[h2]at ry
   rw[eX rx,eX ry]at q ⊢
   cases neg<;>simp only[binOp,dx,if_true,Bool.false_eq_true,if_false,Sem.run_bind]<;>simp[Op.equal,Op.maxDepth,q]
  ·rename_i n m h1 h2
   simp at hv;subst hv
   rw[h1]at rx;rw[h2]at ry
   rw[fq rx,fq ry]
   cases neg<;>simp[binOp,Op.stringOp,dx,EJ]
  ·simp at hv
 simp only[execOp,ho,Sem.run_bind,e0,e1,Result.andThen_ok,Sem.run_pure]
theorem QD {x y:Operand} {x' y':O} {t yt:TypeId} {neg:Bool} {ts:List TS} {fs:Array Field} {xs ys:List AV} {b:Bool} (E:bD P w D ι env a) (ho:o.op=.binOp (if neg then .neq else .eql) t x y yt) (qD:P.underlying t=some (.struct fs)) (dc:P.stoodInHeld t=false) (Ka:P.eqGuardType P.depth t=false)
  (wT:ee P 4 0 fs.toList=some ts) (hx:cO P x=some x') (hy:cO P y=some y') (h1:cE env x'=.agg xs) (h2:cE env y'=.agg ys)
  (hv:e8 ts xs ys=some b):nJ P a o w D ι (.bool (dx neg b)):=by
 obtain⟨vs,f,rx,n1,_,f1,r1⟩:=iF (h1▸cJ E hx)
 obtain⟨us,f',ry,n2,_,f2,r2⟩:=iF (h2▸cJ E hy)
 refine⟨.bool (dx neg b),?_,.eF _ _ (.bool _)⟩
 obtain⟨l1,l2⟩:=qz hv
 have L:∀(xs:List AV) (vs:Array Value) (f:Nat->Value),vs.size=xs.length->(∀j,j<xs.length->vs[j]? =some (f j))->(∀j a,xs[j]? =some a->cq P w D ι a (f j))->fh P w D ι xs vs:=fun xs vs f h1 h2 h3=>
  ⟨h1,fun j a ha=>⟨f j,h2 j (List.getElem?_eq_some_iff.1 ha).1,h3 j a ha⟩⟩
 have q:=qT (w:=w) 4 fs.toList 0 ts wT 9998 (by omega) xs ys vs us b (L _ _ _ n1 f1 r1) (L _ _ _ n2 f2 r2) (by simpa[List.take_of_length_le,l1,l2]using hv)
 have LC:P.fieldsOf t=fs:=by simp[Program.fieldsOf,qD]
 have q2:(Op.equal t (.agg vs) (.agg us)).run P w=.ok b w:=by
  unfold Op.equal
  rw[show Op.maxDepth=9999+1 from rfl,run_equalIn_struct w 9999 t _ _ (by rw[LC];exact qD) dc,LC,q]
 simp only[execOp,ho,Sem.run_bind,rx,ry,run_eqGuard_agg w _ _ _ _ _ _ Ka,Result.andThen_ok]
 cases neg<;>simp[binOp,q2,dx]
theorem N9 {x:Operand} {x':O} {t yt e:TypeId} {neg:Bool} {b:Bool} (E:bD P w D ι env a) (ho:o.op=.binOp (if neg then .neq else .eql) t x (.const (.slice none 0 0)) yt) (ht:P.underlying t=some (.slice e)) (hx:cO P x=some x')
  (hv:cZ (cE env x')=some b):nJ P a o w D ι (.bool (dx neg b)):=by
 have hr:=cJ E hx
 have rx:∃A n c,a.eval x=.slice A n c/\b=A.isNone:=by
  unfold cZ at hv
  split at hv<;>simp at hv<;>subst hv<;>rename_i hh
  ·rw[hh]at hr;exact⟨_,_,_,jT hr,rfl⟩
  ·rw[hh]at hr;obtain⟨o,cap,B,h,_⟩:=iG hr
   exact⟨_,_,_,h,rfl⟩
  ·rw[hh]at hr
   obtain⟨A,c,h',_,_,h⟩:=vN hr
   rcases h with h|⟨b,o,sz,vs,rfl,_⟩
   ·simp at h
   ·exact⟨_,_,_,h',rfl⟩
 refine⟨.bool (dx neg b),?_,.eF _ _ (.bool _)⟩
 obtain⟨A,n,c,h,rfl⟩:=rx
 have hq:(Op.equal t (.slice A n c) (.slice none 0 0)).run P w=.ok A.isNone w:=by
  unfold Op.equal
  rw[show Op.maxDepth=9999+1 from rfl,Op.equalIn]
  simp only[Sem.run_bind,run_underlying ht,Result.andThen_ok]
  cases A<;>rfl
 have hc:a.eval (.const (.slice none 0 0))=.slice none 0 0:=rfl
 simp only[execOp,ho,h,hc]
 cases neg<;>simp only[Bool.false_eq_true,if_false,if_true,Bool.not_true,Bool.not_false,eqGuard,binOp,dx,Sem.run_bind,hq,Result.andThen_ok,Sem.run_pure]
theorem QE {x:Operand} {x':O} {t yt e:TypeId} {neg:Bool} {b:Bool} (E:bD P w D ι env a) (ho:o.op=.binOp (if neg then .neq else .eql) t x (.const (.pointer none)) yt) (ht:P.underlying t=some (.pointer e)) (hx:cO P x=some x')
  (hv:Jd (cE env x')=some b):nJ P a o w D ι (.bool (dx neg b)):=by
 have hr:=cJ E hx
 have rx:∃A,a.eval x=.pointer A/\b=A.isNone:=by
  unfold Jd at hv
  split at hv<;>simp at hv<;>subst hv<;>rename_i hh
  ·rw[hh]at hr;exact⟨_,IB hr,rfl⟩
  ·rw[hh]at hr;obtain⟨B,h,_⟩:=ir hr
   exact⟨_,h,rfl⟩
  ·rw[hh]at hr;obtain⟨_,_,_,h,_⟩:=kI hr
   exact⟨_,h,rfl⟩
 refine⟨.bool (dx neg b),?_,.eF _ _ (.bool _)⟩
 obtain⟨A,h,rfl⟩:=rx
 have hq:(Op.equal t (.pointer A) (.pointer none)).run P w=.ok A.isNone w:=by
  unfold Op.equal
  rw[show Op.maxDepth=9999+1 from rfl,Op.equalIn]
  simp only[Sem.run_bind,run_underlying ht,Result.andThen_ok]
  cases A<;>rfl
 have hc:a.eval (.const (.pointer none))=.pointer none:=rfl
 simp only[execOp,ho,h,hc]
 cases neg<;>simp only[Bool.false_eq_true,if_false,if_true,Bool.not_true,Bool.not_false,eqGuard,binOp,dx,Sem.run_bind,hq,Result.andThen_ok,Sem.run_pure]
theorem N8 {x:Operand} {x':O} {t yt:TypeId} {p r:Array TypeId} {va:Bool} {neg:Bool} {b:Bool} (E:bD P w D ι env a) (ho:o.op=.binOp (if neg then .neq else .eql) t x (.const .nilFunc) yt) (ht:P.underlying t=some (.func p r va)) (hx:cO P x=some x')
  (hv:cY (cE env x')=some b):nJ P a o w D ι (.bool (dx neg b)):=by
 have hr:=cJ E hx
 have rx:a.eval x=.nilFunc/\b=true∨∃f c,a.eval x=.func f #[] c/\b=false:=by
  unfold cY at hv
  split at hv<;>simp at hv<;>subst hv<;>rename_i hh
  ·rw[hh]at hr;exact .inl ⟨vM hr,rfl⟩
  ·rw[hh]at hr;obtain⟨vs,g,h,_⟩:=zr hr
   exact .inr ⟨_,_,h,rfl⟩
 refine⟨.bool (dx neg b),?_,.eF _ _ (.bool _)⟩
 have hc:a.eval (.const .nilFunc)=.nilFunc:=rfl
 rcases rx with⟨h,rfl⟩|⟨f,c,h,rfl⟩
 ·have hq:(Op.equal t .nilFunc .nilFunc).run P w=.ok true w:=by
   unfold Op.equal
   rw[show Op.maxDepth=9999+1 from rfl,Op.equalIn]
   simp only[Sem.run_bind,run_underlying ht,Result.andThen_ok]
   rfl
  simp only[execOp,ho,h,hc]
  cases neg<;>simp only[Bool.false_eq_true,if_false,if_true,Bool.not_true,Bool.not_false,eqGuard,binOp,dx,Sem.run_bind,hq,Result.andThen_ok,Sem.run_pure]
 ·have hq:(Op.equal t (.func f #[] c) .nilFunc).run P w=.ok false w:=by
   unfold Op.equal
   rw[show Op.maxDepth=9999+1 from rfl,Op.equalIn]
   simp only[Sem.run_bind,run_underlying ht,Result.andThen_ok]
   rfl
  simp only[execOp,ho,h,hc]
  cases neg<;>simp only[Bool.false_eq_true,if_false,if_true,Bool.not_true,Bool.not_false,eqGuard,binOp,dx,Sem.run_bind,hq,Result.andThen_ok,Sem.run_pure]
theorem QI {x:Operand} {x':O} {t:TypeId} (E:bD P w D ι env a) (ho:o.op=.unOp .not t x) (hx:cO P x=some x') (hv:eC (cE env x')=some v):nJ P a o w D ι v:=by
 have hr:=cJ E hx
 unfold eC at hv
 split at hv
 ·rename_i b hb
  simp at hv;subst hv
  rw[hb]at hr
  exact⟨_,by simp only[execOp,ho,eX hr];rfl,.eF _ _ (.bool _)⟩
 ·simp at hv
theorem QH {x:Operand} {x':O} {t:TypeId} (E:bD P w D ι env a) (ho:o.op=.unOp .neg t x) (hx:cO P x=some x') (hv:eA (cE env x')=some v):nJ P a o w D ι v:=by
 have hr:=cJ E hx
 unfold eA at hv
 split at hv
 ·rename_i k n hb
  simp at hv;subst hv
  rw[hb]at hr
  refine⟨_,by simp only[execOp,ho,dp hr];rfl,?_⟩
  rw[Int.zero_sub];exact .eF _ _ (.int _ _)
 ·simp at hv
theorem N7 {x:Operand} {x':O} {s d:TypeId} {k q:IntKind} (E:bD P w D ι env a) (ho:o.op=.convert s d x) (hs:P.underlying s=some (.int q)) (hd:P.underlying d=some (.int k)) (hx:cO P x=some x') (hv:cP k (cE env x')=some v):nJ P a o w D ι v:=by
 have hr:=cJ E hx
 unfold cP at hv
 split at hv
 ·rename_i k' n hb
  simp at hv;subst hv
  rw[hb]at hr
  refine⟨.int k (k.wrap n),?_,.eF _ _ (.int _ _)⟩
  simp only[execOp,ho,dp hr,convert,Sem.run_bind,run_underlying hs,run_underlying hd,Result.andThen_ok,Conv.intToInt,Sem.run_pure]
 ·simp at hv
theorem Le {x:Operand} {x':O} {s:TypeId} {i:Nat} {fs:Array Field} {f:Field} {m:Nat} (E:bD P w D ι env a) (ho:o.op=.fieldAddr s x i) (hs:P.underlying s=some (.struct fs)) (hf:fs[i]? =some f) (hm:dI P f.type=some (m+1)) (hx:cO P x=some x')
  (hv:DO f.offset (cE env x')=some v):nJ P a o w D ι v:=by
 have hr:=cJ E hx
 have go:∀b oo,a.eval x=.pointer (some ⟨b,oo,none⟩)->(execOp a.eval o).run P w=.ok (.value (.pointer (some ⟨b,oo+f.offset,none⟩))) w:=fun b oo h=>by
  simp only[execOp,ho,h,Instr.fieldAt,Sem.run_bind,run_underlying hs,Result.andThen_ok,hf,Instr.sureAddr,Sem.run_pure,fieldPlace,run_sizeOf hm,Nat.add_eq_zero_iff,Nat.one_ne_zero,and_false,if_false,Addr.add]
  split
  ·rename_i h0;simp[h0]
  ·rfl
 unfold DO at hv
 split at hv
 ·rename_i jJ i' oo hb
  simp at hv;subst hv
  rw[hb]at hr
  obtain⟨B,h,hB,hk⟩:=ir hr
  refine⟨_,go _ _ h,?_⟩
  rw[Nat.add_assoc]
  exact .ptr _ _ _ _ hB hk
 ·rename_i cs hb
  simp at hv;subst hv
  rw[hb]at hr
  obtain⟨b,oo,vs,h,h1,h2,h3,h4⟩:=kI hr
  refine⟨_,go _ _ h,.eF _ _ (.cr _ _ _ (fun j=>vs (f.offset+j)) h1 (fun a ha=>h2 a (List.mem_of_mem_drop ha)) (fun j hj=>?_) (fun j a ha=>h4 _ _ (by simpa using ha)))⟩
  rw[Nat.add_assoc]
  exact h3 _ (by simp at hj;omega)
 ·simp at hv
theorem Lf {x:Operand} {x':O} {s:TypeId} {i n:Nat} {ag:Bool} {fs:Array Field} {f:Field} (E:bD P w D ι env a) (ho:o.op=.field s x i) (hs:P.underlying s=some (.struct fs)) (hf:fs[i]? =some f) (tH:nr P f.type=some ag) (hm:dI P f.type=some n) (hx:cO P x=some x')
  (hv:bL ag f.offset n (cE env x')=some v):nJ P a o w D ι v:=by
 have hr:=cJ E hx
 unfold bL at hv
 split at hv
 ·rename_i cs hb
  split at hv
  ·rename_i hl
   rw[hb]at hr
   obtain⟨vs,g,h,n1,fl,f1,r1⟩:=iF hr
   unfold part at hv
   cases ag with
   |true=>
    simp only[if_true]at hv
    split at hv
    ·simp at hv;subst hv
     refine⟨.agg (vs.extract f.offset (f.offset+n)),?_,.agg _ _ (fun j=>g (f.offset+j)) (by simp[n1];omega) (fun a ha=>fl a (List.mem_of_mem_drop (List.mem_of_mem_take ha))) (fun j hj=>?_) (fun j a ha=>?_)⟩
     ·simp only[execOp,ho,h,Instr.field,Sem.run_bind,run_underlying hs,Result.andThen_ok,hf,asAgg,Sem.run_pure,oN tH hm]
     ·simp at hj
      rw[Array.getElem?_extract,if_pos (by omega)];exact f1 _ (by omega)
     ·rw[List.getElem?_take]at ha
      split at ha
      ·exact r1 _ _ (by simpa using ha)
      ·simp at ha
    ·simp at hv
   |false=>
    simp only[Bool.false_eq_true,if_false]at hv
    have nw:cs[f.offset]? =some v:=by simpa[List.head?_drop]using hv
    have dz:=(List.getElem?_eq_some_iff.1 nw).1
    exact⟨g f.offset,by simp only[execOp,ho,h,Instr.field,Sem.run_bind,run_underlying hs,Result.andThen_ok,hf,asAgg,Sem.run_pure,lW tH (f1 _ dz)],r1 _ _ nw⟩
  ·simp at hv
 ·simp at hv
theorem QJ {left:Bool} {x y:Operand} {x' y':O} {t yt:TypeId} (E:bD P w D ι env a) (ho:o.op=.binOp (if left then .shl else .shr) t x y yt) (hx:cO P x=some x') (hy:cO P y=some y') (hv:iI left (cE env x') (cE env y')=some v):nJ P a o w D ι v:=by
 unfold iI at hv
 split at hv
 ·rename_i k n k' m hb rR
  split at hv
  ·simp at hv
  ·rename_i hm
   simp at hv;subst hv
   have h1:=dp (hb▸cJ E hx)
   have h2:=dp (rR▸cJ E hy)
   refine⟨_,?_,.eF _ _ (.int _ _)⟩
   simp only[execOp,ho,h1,h2]
   cases left<;>simp only[Bool.false_eq_true,if_false,if_true,eqGuard,Bool.not_true,Bool.not_false,binOp,Op.shift,hm,Sem.run_bind,Sem.run_pure,Result.andThen_ok]<;>rfl
 ·simp at hv
end
end Go.Proofs.YtgoelphibofcmaaGreat.V

namespace Go.Proofs.YtgoelphibofcmaaGreat.V
open Go.RowKit
variable {P:Program} {w w':World} {D D':Nat->Prop} {ι ι':Names}
theorem jW (b o j:Nat):(⟨b,o,none⟩:Addr).add j=⟨b,o+j,none⟩:=by unfold Addr.add;split<;>simp_all
section
variable {g:Rows} {hs:Nat} {env:Env} {a:Act} {o:Oper} {id:Id} {v:AV}
theorem kd {t:TypeId} {ag:Bool} {n b oo:Nat} {cs:List AV} {v:AV} {f:Nat->Value} (tH:nr P t=some ag) (hn:dI P t=some n) (hp:part ag n cs=some v) (fl:∀a∈cs,a.cell=true)
  (hc:∀j,j<cs.length->w.cell? ⟨b,oo+j,none⟩=some (f j)) (hr:∀j a,cs[j]? =some a->cq P w D ι a (f j)):∃u,(loadVar t ⟨b,oo,none⟩).run P w=.ok u w/\cq P w D ι v u:=by
 unfold part at hp
 cases ag with
 |true=>
  simp only[if_true]at hp
  split at hp
  ·rename_i hl
   simp at hp;subst hp
   refine⟨.agg ((List.range n).map f).toArray,?_,.agg _ _ f (by simp;omega) (fun a ha=>fl a (List.mem_of_mem_take ha)) (fun j hj=>?_) (fun j a ha=>?_)⟩
   ·simp only[loadVar,Sem.run_bind,sa tH,Result.andThen_ok,if_true,run_sizeOf hn,Sem.run_pure]
    rw[run_loadCells w _ n f (fun j hj=>by rw[jW];exact hc j (by omega))]
    rfl
   ·simp at hj
    have:j<n:=by omega
    simp[this]
   ·rw[List.getElem?_take]at ha
    split at ha
    ·exact hr _ _ ha
    ·simp at ha
  ·simp at hp
 |false=>
  simp only[Bool.false_eq_true,if_false]at hp
  cases cs with
  |nil=>simp at hp
  |cons c r=>
   simp at hp;subst hp
   refine⟨f 0,?_,hr 0 _ rfl⟩
   simp only[loadVar,Sem.run_bind,sa tH,Result.andThen_ok,Bool.false_eq_true,if_false]
   have:=hc 0 (by simp)
   simp at this
   rw[run_load,this]
theorem IL {S:fU P hs D ι g w} {i:Nat} {cs:List AV} (h:rowAt g id i=some cs) (hk:∀B,ι id=some B->B.k=none):∃B r,g id=some r/\ι id=some B/\lf P w D ι B r/\r.rows[i]? =some cs/\(∀a∈cs,a.cell=true)/\∃f:Nat->Value,∀j,j<cs.length->w.cell? ⟨B.b,i*B.sz+j,none⟩=some (f j)/\∀a,cs[j]? =some a->cq P w D ι a (f j):=by
 unfold rowAt at h
 simp only[Option.bind_eq_some_iff]at h
 obtain⟨r,hr,hi⟩:=h
 obtain⟨B,hB,R,_,_⟩:=S.row id r hr
 replace R:=R.row (hk B hB)
 refine⟨B,r,hr,hB,R,hi,R.flat cs (List.mem_of_getElem? hi),fun j=>(w.cell? ⟨B.b,i*B.sz+j,none⟩).getD undef,fun j hj=>?_⟩
 obtain⟨u,hu,wS⟩:=R.at_ i j cs _ hi (List.getElem?_eq_getElem hj)
 rw[R.sz,hu]
 refine⟨by simp only[hu,Option.getD_some],fun a ha=>?_⟩
 rw[List.getElem?_eq_getElem hj]at ha
 injection ha with ha
 subst ha
 simpa only[hu,Option.getD_some]using wS
theorem Of {x:Operand} {x':O} {t:TypeId} {ag:Bool} {n:Nat} (S:fU P hs D ι g w) (E:bD P w D ι env a) (ho:o.op=.load t x) (tH:nr P t=some ag) (hn:dI P t=some n) (hx:cO P x=some x') (hv:ld g ag n (cE env x')=some v):nJ P a o w D ι v:=by
 have hr:=cJ E hx
 have go:∀b oo u,a.eval x=.pointer (some ⟨b,oo,none⟩)->(loadVar t ⟨b,oo,none⟩).run P w=.ok u w->(execOp a.eval o).run P w=.ok (.value u) w:=fun b oo u h h2=>by
  simp only[execOp,ho,h,Instr.loadAt,Instr.sureAddr,Sem.run_bind,Sem.run_pure,Result.andThen_ok,h2]
 unfold ld at hv
 split at hv
 ·rename_i jJ i' oo hb
  rw[hb]at hr
  obtain⟨B,h,hB,hk⟩:=ir hr
  simp only[Option.bind_eq_some_iff]at hv
  obtain⟨cs,dn,hp⟩:=hv
  obtain⟨B',r,GC,dr,R,hi,fl,f,hf⟩:=IL (S:=S) dn (fun B2 h2=>by rw[hB]at h2;injection h2 with h2;subst h2;exact hk)
  rw[hB]at dr;injection dr with dr;subst dr
  obtain⟨u,h1,h2⟩:=kd (w:=w) (b:=B.b) (oo:=i'*B.sz+oo) (f:=fun j=>f (oo+j)) tH hn hp (fun a ha=>fl a (List.mem_of_mem_drop ha)) (fun j hj=>by
   rw[Nat.add_assoc];exact(hf _ (by simp at hj;omega)).1) (fun j a ha=>by
   simp at ha;exact(hf _ ((List.getElem?_eq_some_iff.1 ha).1)).2 _ ha)
  exact⟨u,go _ _ _ h h1,h2⟩
 ·rename_i cs hb
  rw[hb]at hr
  obtain⟨b,oo,vs,h,h1,h2,h3,h4⟩:=kI hr
  obtain⟨u,k1,k2⟩:=kd (w:=w) (b:=b) (oo:=oo) (f:=vs) tH hn hv h2 h3 (fun j a ha=>.eF _ _ (h4 j a ha))
  exact⟨u,go _ _ _ h k1,k2⟩
 ·simp at hv
theorem QC {x:Operand} {x':O} (E:bD P w D ι env a) (ho:o.op=.nilCheck x) (hx:cO P x=some x') (hv:ew (cE env x')=some v):nJ P a o w D ι v:=by
 have hr:=cJ E hx
 unfold ew at hv
 split at hv
 ·rename_i jJ i' oo hb
  simp at hv;subst hv
  rw[hb]at hr
  obtain⟨B,h,hB,hk⟩:=ir hr
  exact⟨_,by simp only[execOp,ho,h];rfl,.ptr _ _ _ _ hB hk⟩
 ·rename_i cs hb
  simp at hv;subst hv
  rw[hb]at hr
  obtain⟨b,oo,vs,h,_⟩:=kI hr
  exact⟨_,by simp only[execOp,ho,h];rfl,h▸hr⟩
 ·simp at hv
theorem Lg {x i:Operand} {x' i':O} {t e:TypeId} {m:Nat} (S:fU P hs D ι g w) (E:bD P w D ι env a) (ho:o.op=.indexAddr t x i) (ht:P.underlying t=some (.slice e)) (hm:dI P e=some (m+1)) (hx:cO P x=some x') (hi:cO P i=some i')
  (hv:bP g (m+1) (cE env x') (cE env i')=some v):nJ P a o w D ι v:=by
 have hr:=cJ E hx
 have CU:=cJ E hi
 have go:∀b oo n c k (q:Int),a.eval x=.slice (some ⟨b,oo,none⟩) n c->a.eval i=.int k q->0<=q->q<n->(execOp a.eval o).run P w=.ok (.value (.pointer (some ⟨b,oo+q.toNat*(m+1),none⟩))) w:=fun b oo n c k q h h2 h3 h4=>by
  simp only[execOp,ho,h,h2,Instr.indexAt,asIntOf,Sem.run_bind,Sem.run_pure,run_underlying ht,Result.andThen_ok,h3,h4,and_self,if_true,run_sizeOf hm,jW]
 unfold bP at hv
 split at hv
 ·rename_i rows k q hb rR
  split at hv
  ·rename_i hq
   simp only[Option.bind_eq_some_iff]at hv
   obtain⟨cs,dn,hv⟩:=hv
   split at hv
   ·rename_i hlen
    simp at hv;subst hv
    rw[hb]at hr;rw[rR]at CU
    have dz:=(List.getElem?_eq_some_iff.1 dn).1
    obtain⟨A,c,h,h1,h2,h3⟩:=vN hr
    rcases h3 with h3|⟨b,oo,sz,vs,rfl,hD,hl,fl,hc,hi⟩
    ·subst h3;simp at dn
    have e9:sz=m+1:=by rw[<-hlen,hl cs (List.mem_of_getElem? dn)]
    refine⟨_,go b oo _ _ k q h (dp CU) hq (by omega),.eF _ _ (.cr cs b _ (vs q.toNat) hD (fl cs (List.mem_of_getElem? dn)) (fun j hj=>?_) (fun j a ha=>hi _ _ _ _ dn ha))⟩
    have:=hc q.toNat j dz (by rw[<-hl cs (List.mem_of_getElem? dn)];exact hj)
    rw[e9]at this
    rw[Nat.add_assoc];exact this
   ·simp at hv
  ·simp at hv
 ·rename_i jJ off len k q hb rR
  split at hv
  ·rename_i hq
   simp only[Option.bind_eq_some_iff]at hv
   obtain⟨r,GC,hv⟩:=hv
   split at hv
   ·rename_i xG
    simp at hv;subst hv
    rw[hb]at hr;rw[rR]at CU
    obtain⟨oo,cap,B,h,hB,h1,h2,h3,h4,hk⟩:=iG hr
    obtain⟨B',dr,R,_,_⟩:=S.row _ _ GC
    rw[hB]at dr;injection dr with dr;subst dr
    replace R:=R.row hk
    have e9:B.sz=m+1:=R.sz.trans xG
    refine⟨_,go _ _ _ _ k q h (dp CU) hq.1 hq.2,?_⟩
    have BS:oo=off*B.sz:=by rcases h2 with h2|h2<;>omega
    have:oo+q.toNat*(m+1)=(off+q.toNat)*B.sz+0:=by rw[BS,<-e9,Nat.add_mul];rfl
    rw[this]
    exact .ptr _ _ _ _ hB hk
   ·simp at hv
  ·simp at hv
 ·simp at hv
theorem Oa {x i:Operand} {x' i':O} {t e:TypeId} {m len:Nat} (E:bD P w D ι env a) (ho:o.op=.indexAddr t x i) (ht:P.underlying t=some (.array len e)) (hm:dI P e=some (m+1)) (hx:cO P x=some x') (hi:cO P i=some i')
  (hv:cQ len (m+1) (cE env x') (cE env i')=some v):nJ P a o w D ι v:=by
 have hr:=cJ E hx
 have CU:=cJ E hi
 have go:∀b oo k (q:Int),a.eval x=.pointer (some ⟨b,oo,none⟩)->a.eval i=.int k q->0<=q->q<len->(execOp a.eval o).run P w=.ok (.value (.pointer (some ⟨b,oo+q.toNat*(m+1),none⟩))) w:=fun b oo k q h h2 h3 h4=>by
  simp only[execOp,ho,h,h2,Instr.indexAt,asIntOf,Sem.run_bind,Sem.run_pure,run_underlying ht,Instr.sureAddr,Result.andThen_ok,h3,h4,and_self,if_true,run_sizeOf hm,jW]
 unfold cQ at hv
 split at hv
 ·rename_i jJ r oo k q hb rR
  split at hv
  ·rename_i hq
   simp at hv;subst hv
   rw[hb]at hr;rw[rR]at CU
   obtain⟨B,h,hB,hk⟩:=ir hr
   refine⟨_,go _ _ k q h (dp CU) hq.1 hq.2,?_⟩
   rw[Nat.add_assoc]
   exact .ptr _ _ _ _ hB hk
  ·simp at hv
 ·rename_i cs k q hb rR
  split at hv
  ·rename_i hq
   simp at hv;subst hv
   rw[hb]at hr;rw[rR]at CU
   obtain⟨b,oo,vs,h,h1,h2,h3,h4⟩:=kI hr
   refine⟨_,go _ _ k q h (dp CU) hq.1 hq.2,.eF _ _ (.cr _ _ _ (fun j=>vs (q.toNat*(m+1)+j)) h1 (fun a ha=>h2 a (List.mem_of_mem_drop ha)) (fun j hj=>?_) (fun j a ha=>h4 _ _ (by simpa using ha)))⟩
   rw[Nat.add_assoc]
   exact h3 _ (by simp at hj;omega)
  ·simp at hv
 ·simp at hv
theorem Oc {x i:Operand} {x' i':O} {t:TypeId} (E:bD P w D ι env a) (ho:o.op=.index t x i) (ht:P.underlying t=some .string) (hx:cO P x=some x') (hi:cO P i=some i')
  (hv:cU (cE env x') (cE env i')=some v):nJ P a o w D ι v:=by
 have hr:=cJ E hx
 have CU:=cJ E hi
 unfold cU at hv
 split at hv
 ·rename_i s k q hb rR
  split at hv
  ·rename_i hq
   simp only[Option.map_eq_some_iff]at hv
   obtain⟨c,hc,rfl⟩:=hv
   rw[hb]at hr;rw[rR]at CU
   refine⟨_,?_,.eF _ _ (.int _ _)⟩
   simp only[execOp,ho,fq hr,dp CU,Instr.index,asIntOf,Sem.run_bind,Sem.run_pure,run_underlying ht,Result.andThen_ok,hq,if_true,hc]
  ·simp at hv
 ·simp at hv
theorem Ob {x i:Operand} {x' i':O} {t e:TypeId} {ag:Bool} {len n:Nat} (E:bD P w D ι env a) (ho:o.op=.index t x i) (ht:P.underlying t=some (.array len e)) (tH:nr P e=some ag) (hn:dI P e=some n) (hx:cO P x=some x') (hi:cO P i=some i')
  (hv:cR ag len n (cE env x') (cE env i')=some v):nJ P a o w D ι v:=by
 have hr:=cJ E hx
 have CU:=cJ E hi
 unfold cR at hv
 split at hv
 ·rename_i cs k q hb rR
  split at hv
  ·rename_i hq
   rw[hb]at hr;rw[rR]at CU
   obtain⟨vs,f,h,n1,fl,f1,r1⟩:=iF hr
   have go:∀u,(Go.part e vs (q.toNat*n)).run P w=.ok u w->(execOp a.eval o).run P w=.ok (.value u) w:=fun u hu=>by
    simp only[execOp,ho,h,dp CU,Instr.index,asIntOf,Sem.run_bind,Sem.run_pure,run_underlying ht,Result.andThen_ok,hq,and_self,if_true,run_sizeOf hn,hu]
   unfold part at hv
   cases ag with
   |true=>
    simp only[if_true]at hv
    split at hv
    ·rename_i hl
     simp at hv;subst hv
     simp only[List.length_drop]at hl
     by_cases GF:n=0
     ·subst GF
      refine⟨_,go _ (oN tH hn),.agg _ _ (fun _=>undef) (by simp) (fun a ha=>by simp at ha) (fun j hj=>by simp at hj) (fun j a ha=>by simp at ha)⟩
     refine⟨_,go _ (oN tH hn),.agg _ _ (fun j=>f (q.toNat*n+j)) (by simp[n1];omega) (fun a ha=>fl a (List.mem_of_mem_drop (List.mem_of_mem_take ha))) (fun j hj=>?_) (fun j a ha=>?_)⟩
     ·simp at hj
      rw[Array.getElem?_extract,if_pos (by omega)];exact f1 _ (by omega)
     ·rw[List.getElem?_take]at ha
      split at ha
      ·exact r1 _ _ (by simpa using ha)
      ·simp at ha
    ·simp at hv
   |false=>
    simp only[Bool.false_eq_true,if_false]at hv
    have nw:cs[q.toNat*n]? =some v:=by simpa[List.head?_drop]using hv
    have dz:=(List.getElem?_eq_some_iff.1 nw).1
    exact⟨_,go _ (lW tH (f1 _ dz)),r1 _ _ nw⟩
  ·simp at hv
 ·simp at hv
theorem Gy {x:Operand} {x':O} {i:Nat} (E:bD P w D ι env a) (ho:o.op=.extract x i) (hx:cO P x=some x') (hv:aL i (cE env x')=some v):nJ P a o w D ι v:=by
 have hr:=cJ E hx
 unfold aL at hv
 split at hv
 ·rename_i vs hb
  rw[hb]at hr
  obtain⟨us,f,h,h1,h2,h3⟩:=tT hr
  have dz:=(List.getElem?_eq_some_iff.1 hv).1
  exact⟨_,by simp only[execOp,ho,h,Instr.extract,h2 _ dz];rfl,h3 _ _ hv⟩
 ·simp at hv
theorem QG {x:Operand} {x':O} {t:TypeId} {e:TypeId} {n:Nat} (E:bD P w D ι env a) (ho:o.op=.call {callee:=.builtin .len,args:= #[x],argTypes:= #[t]}) (ht:P.underlying t=some (.slice e)) (hx:cO P x=some x') (hv:ez (cE env x')=some n):nJ P a o w D ι (.int .i64 n):=by
 have hr:=cJ E hx
 have go:∀A c,a.eval x=.slice A n c->(execOp a.eval o).run P w=.ok (.value (.int .i64 n)) w:=fun A c h=>by
  simp only[execOp,ho,resolve,Sem.run_bind,Sem.run_pure,Result.andThen_ok,invoke,builtin,Array.map,h]
  simp[Builtin.len_,run_underlying ht,goInt,h]
 refine⟨.int .i64 n,?_,.eF _ _ (.int _ _)⟩
 unfold ez at hv
 split at hv<;>simp at hv<;>subst hv<;>rename_i hb<;>rw[hb]at hr
 ·exact go _ _ (jT hr)
 ·obtain⟨A,c,h,_⟩:=vN hr;exact go _ _ h
 ·obtain⟨oo,cap,B,h,_⟩:=iG hr;exact go _ _ h
theorem Oe {x:Operand} {x':O} {t:TypeId} (E:bD P w D ι env a) (ho:o.op=.call {callee:=.builtin .len,args:= #[x],argTypes:= #[t]}) (ht:P.underlying t=some .string) (hx:cO P x=some x') (hv:cW (cE env x')=some v):nJ P a o w D ι v:=by
 have hr:=cJ E hx
 unfold cW at hv
 split at hv
 ·rename_i s hb
  simp at hv;subst hv
  rw[hb]at hr
  have h:=fq hr
  refine⟨_,?_,.eF _ _ (.int _ _)⟩
  simp only[execOp,ho,resolve,Sem.run_bind,Sem.run_pure,Result.andThen_ok,invoke,builtin,Array.map,h]
  simp[Builtin.len_,run_underlying ht,goInt,h]
 ·simp at hv
theorem mE {isS:Bool} {len cap h l:Nat} {lo hi:Option Operand} {LU qi:Option O} (E:bD P w D ι env a) (jA:qv P lo=some LU) (BV:qv P hi=some qi) (hh:ea len (qi.map (cE env))=some h) (hl:ec h (LU.map (cE env))=some l) (hc:len<=cap):
  (Instr.sliceBounds isS len cap (lo.map a.eval) (hi.map a.eval) none).run P w=.ok (l,h,cap) w/\l<=h/\h<=len:=by
 have bound:∀(x:Operand) (y:O) (k:IntKind) (n:Int) (m:Nat) (c:BoundsCode),cO P x=some y->cE env y=.int k n->0<=n->n<=m->(Instr.sliceBound (a.eval x) m c).run P w=.ok n.toNat w:=fun x y k n m c hx hy h0 h1=>by
  have hr:=cJ E hx
  rw[hy]at hr
  simp only[Instr.sliceBound,dp hr,asIntOf,Sem.run_bind,Sem.run_pure,Result.andThen_ok,h0,h1,and_self,if_true]
 have H:h<=len/\((hi=none/\h=len)∨∃x,hi=some x/\∀c,(Instr.sliceBound (a.eval x) cap c).run P w=.ok h w):=by
  cases hi with
  |none=>
   simp[qv]at BV;subst BV
   simp[ea]at hh;subst hh
   exact⟨Nat.le_refl _,.inl ⟨rfl,rfl⟩⟩
  |some x=>
   simp only[qv,Option.map_eq_some_iff]at BV
   obtain⟨y,hy,rfl⟩:=BV
   simp only[Option.map_some,ea]at hh
   split at hh
   ·rename_i e;cases e
   ·rename_i k n e
    injection e with e
    split at hh
    ·rename_i hn
     simp at hh;subst hh
     exact⟨by omega,.inr ⟨x,rfl,fun c=>bound x y k n _ _ hy e hn.1 (by omega)⟩⟩
    ·simp at hh
   ·simp at hh
 have L:l<=h/\((lo=none/\l=0)∨∃x,lo=some x/\∀c,(Instr.sliceBound (a.eval x) h c).run P w=.ok l w):=by
  cases lo with
  |none=>
   simp[qv]at jA;subst jA
   simp[ec]at hl;subst hl
   exact⟨Nat.zero_le _,.inl ⟨rfl,rfl⟩⟩
  |some x=>
   simp only[qv,Option.map_eq_some_iff]at jA
   obtain⟨y,hy,rfl⟩:=jA
   simp only[Option.map_some,ec]at hl
   split at hl
   ·rename_i e;cases e
   ·rename_i k n e
    injection e with e
    split at hl
    ·rename_i hn
     simp at hl;subst hl
     exact⟨by omega,.inr ⟨x,rfl,fun c=>bound x y k n h _ hy e hn.1 hn.2⟩⟩
    ·simp at hl
   ·simp at hl
 refine⟨?_,L.1,H.1⟩
 unfold Instr.sliceBounds
 rcases H.2 with⟨rfl,rfl⟩|⟨x,rfl,hx⟩<;>rcases L.2 with⟨rfl,rfl⟩|⟨y,rfl,hy⟩<;>
  simp only[Option.map_none,Option.map_some,Sem.run_bind,Sem.run_pure,Result.andThen_ok, *]
theorem Lh {x:Operand} {x':O} {lo hi:Option Operand} {LU qi:Option O} {t e:TypeId} {m:Nat} (S:fU P hs D ι g w) (E:bD P w D ι env a) (ho:o.op=.slice t x lo hi none) (ht:P.underlying t=some (.slice e)) (hm:dI P e=some m) (hx:cO P x=some x') (jA:qv P lo=some LU) (BV:qv P hi=some qi)
  (hv:bQ g m (cE env x') (LU.map (cE env)) (qi.map (cE env))=some v):nJ P a o w D ι v:=by
 have hr:=cJ E hx
 have go:∀A len cap l h,a.eval x=.slice A len cap->(Instr.sliceBounds true len cap (lo.map a.eval) (hi.map a.eval) none).run P w=.ok (l,h,cap) w->(execOp a.eval o).run P w=.ok (.value (.slice (if cap=l then A else A.map (·.add (l*m))) (h-l) (cap-l))) w:=fun A len cap l h h1 h2=>by
  simp only[execOp,ho,h1,Instr.sliceAt,Instr.slice,Sem.run_bind,Sem.run_pure,run_underlying ht,Result.andThen_ok,Option.map_none,h2,run_sizeOf hm]
 unfold bQ at hv
 split at hv
 ·rename_i hb
  rw[hb]at hr
  simp only[Option.bind_eq_some_iff,Option.map_eq_some_iff]at hv
  obtain⟨h,hh,l,hl,rfl⟩:=hv
  obtain⟨q,q1,q2⟩:=mE (w:=w) (isS:=true) (cap:=0) E jA BV hh hl (Nat.le_refl _)
  have h0:h=0:=by omega
  have l0:l=0:=by omega
  subst h0;subst l0
  refine⟨_,go _ _ _ _ _ (jT hr) q,?_⟩
  simp;exact .eF _ _ .cj
 ·rename_i rows hb
  rw[hb]at hr
  simp only[Option.bind_eq_some_iff,Option.map_eq_some_iff]at hv
  obtain⟨h,hh,l,hl,hv⟩:=hv
  split at hv
  ·rename_i dF
   simp at hv;subst hv
   obtain⟨A,c,he,c1,c2,h3⟩:=vN hr
   obtain⟨q,q1,q2⟩:=mE (w:=w) (isS:=true) (cap:=c) E jA BV hh hl c1
   refine⟨_,go _ _ _ _ _ he q,.eF _ _ ?_⟩
   have hlen:((rows.drop l).take (h-l)).length=h-l:=by simp;omega
   by_cases hz:h-l=0
   ·have:(rows.drop l).take (h-l)=[]:=by rw[hz];simp
    rw[this,hz]
    exact .z8 _ _ (by omega)
   ·rcases h3 with h3|⟨b,oo,sz,vs,rfl,hD,JB,fl,hc,hi⟩
    ·subst h3;simp at q2;omega
    rw[if_neg (by omega)]
    simp only[Option.map_some,jW]
    have AO:sz=m:=by
     have dz:l<rows.length:=by omega
     have:=dF rows[l] (List.getElem_mem dz)
     rw[<-this,JB _ (List.getElem_mem dz)]
    subst AO
    refine .sl _ b _ _ _ sz (fun i j=>vs (l+i) j) hlen (by omega) (by omega) hD (fun cs dn=>JB cs (List.mem_of_mem_drop (List.mem_of_mem_take dn))) (fun cs dn=>fl cs (List.mem_of_mem_drop (List.mem_of_mem_take dn))) (fun i j hi hj=>?_) (fun i j cs a dn ha=>?_)
    ·rw[<-hc (l+i) j (by omega) hj,Nat.add_mul]
     congr 2;omega
    ·rw[List.getElem?_take]at dn
     split at dn
     ·exact hi _ _ _ _ (by simpa using dn) ha
     ·simp at dn
  ·simp at hv
 ·rename_i jJ off len hb
  rw[hb]at hr
  simp only[Option.bind_eq_some_iff,Option.map_eq_some_iff]at hv
  obtain⟨r,GC,h,hh,l,hl,hv⟩:=hv
  split at hv
  ·rename_i xG
   simp at hv;subst hv
   obtain⟨oo,cap,B,he,hB,h1,h2,h3,h4,hk⟩:=iG hr
   obtain⟨B',dr,R,_,_⟩:=S.row _ _ GC
   rw[hB]at dr;injection dr with dr;subst dr
   replace R:=R.row hk
   have e9:B.sz=m:=R.sz.trans xG
   obtain⟨q,q1,q2⟩:=mE (w:=w) (isS:=true) (cap:=cap) E jA BV hh hl h1
   refine⟨_,go _ _ _ _ _ he q,?_⟩
   have e1:(off+l+(cap-l))*B.sz<=B.C:=by rw[show off+l+(cap-l)=off+cap by omega];exact h3
   by_cases nX:cap=l
   ·rw[if_pos nX]
    exact .own _ _ _ _ _ B hB hk (by omega) (.inl (by omega)) e1 (by omega)
   ·rw[if_neg nX]
    simp only[Option.map_some,jW]
    have BS:oo=off*B.sz:=by rcases h2 with h2|h2<;>omega
    exact .own _ _ _ _ _ B hB hk (by omega) (.inr (by rw[BS,e9,Nat.add_mul])) e1 (by omega)
  ·simp at hv
 ·simp at hv
theorem Jo {x:Operand} {x':O} {lo hi:Option Operand} {LU qi:Option O} {t:TypeId} (E:bD P w D ι env a) (ho:o.op=.slice t x lo hi none) (ht:P.underlying t=some .string) (hx:cO P x=some x') (jA:qv P lo=some LU) (BV:qv P hi=some qi)
  (hv:aY (cE env x') (LU.map (cE env)) (qi.map (cE env))=some v):nJ P a o w D ι v:=by
 have hr:=cJ E hx
 unfold aY at hv
 split at hv
 ·rename_i s hb
  rw[hb]at hr
  simp only[Option.bind_eq_some_iff,Option.map_eq_some_iff]at hv
  obtain⟨h,hh,l,hl,rfl⟩:=hv
  obtain⟨q,_,_⟩:=mE (w:=w) (isS:=false) E jA BV hh hl (Nat.le_refl _)
  refine⟨_,?_,.eF _ _ (.str _)⟩
  simp only[execOp,ho,fq hr,Instr.sliceAt,Instr.slice,Sem.run_bind,Sem.run_pure,run_underlying ht,Result.andThen_ok,Option.map_none,Option.isSome_none,Bool.false_eq_true,if_false,q]
 ·simp at hv
theorem Dj {xs:List Operand} {ys:List O} (E:bD P w D ι env a) (h:xs.mapM (cO P)=some ys):(xs.map a.eval).length=ys.length/\∀j y,ys[j]? =some y->cq P w D ι (cE env y) ((xs.map a.eval).getD j undef):=by
 induction xs generalizing ys with
 |nil=>simp at h;subst h;simp
 |cons x r ih=>
  simp only[List.mapM_cons,Option.bind_eq_bind,Option.bind_eq_some_iff]at h
  obtain⟨c,hc,pq,dn,h⟩:=h
  simp at h;subst h
  obtain⟨h1,h2⟩:=ih dn
  refine⟨by simpa using h1,fun j d hd=>?_⟩
  cases j with
  |zero=>simp at hd ⊢;subst hd;exact cJ E hc
  |succ j=>simp at hd ⊢;simpa using h2 j d hd
theorem Oh {f:Nat} {first cz:Array Operand} {Ao:List O} (E:bD P w D ι env a) (ho:o.op=.makeFunc (.func f) first cz) (hf:first= #[]) (hc:fD P f=true) (hx:cz.toList.mapM (cO P)=some Ao):nJ P a o w D ι (.fn f (Ao.map (cE env))):=by
 subst hf
 obtain⟨h1,h2⟩:=Dj E hx
 refine⟨.func (.func f) #[] (cz.map a.eval),by simp only[execOp,ho,Instr.makeFunc,Sem.run_bind,Sem.run_pure,Result.andThen_ok];simp,.fn _ _ _ (fun j=>(cz.toList.map a.eval).getD j undef) hc (by simpa using h1) (fun j hj=>?_) (fun j x OR=>?_)⟩
 ·simp at hj h1
  have:j<cz.size:=by omega
  simp[this]
 ·simp only[List.getElem?_map,Option.map_eq_some_iff]at OR
  obtain⟨y,hy,rfl⟩:=OR
  exact h2 j y hy
theorem Oi {f:Nat} {first cz:Array Operand} {Ao:List O} (E:bD P w D ι env a) (ho:o.op=.makeFunc (.func f) first cz) (hf:cz= #[]) (hc:fD P f=true) (hx:first.toList.mapM (cO P)=some Ao):nJ P a o w D ι (.sV f (Ao.map (cE env))):=by
 subst hf
 obtain⟨h1,h2⟩:=Dj E hx
 refine⟨.func (.func f) (first.map a.eval) #[],by simp only[execOp,ho,Instr.makeFunc,Sem.run_bind,Sem.run_pure,Result.andThen_ok];simp,.sV _ _ _ (fun j=>(first.toList.map a.eval).getD j undef) hc (by simpa using h1) (fun j hj=>?_) (fun j x OR=>?_)⟩
 ·simp at hj h1
  have:j<first.size:=by omega
  simp[this]
 ·simp only[List.getElem?_map,Option.map_eq_some_iff]at OR
  obtain⟨y,hy,rfl⟩:=OR
  exact h2 j y hy
end
end Go.Proofs.YtgoelphibofcmaaGreat.V

namespace Go.Proofs.YtgoelphibofcmaaGreat.V
open Go.RowKit
variable {P:Program} {w w':World} {D D':Nat->Prop} {ι ι':Names}
def Mk (P:Program) (a:Act) (o:Oper) (w:World) (D:Nat->Prop) (ι:Names) (id:Id) (v:AV) (r:Row):Prop:=
 ∃u cells T,(execOp a.eval o).run P w=.ok (.value u) (w.alloc (.cells cells T))/\r.w=true/\r.rows.length*r.sz<=cells.size/\(∀cs∈r.rows,cs.length=r.sz)/\(∀cs∈r.rows,∀a∈cs,a.cell=true)/\
  (∀i j cs a,r.rows[i]? =some cs->cs[j]? =some a->∃x,cells[i*r.sz+j]? =some x/\cq P w D ι a x)/\∀ι':Names,ι' id=some ⟨w.heap.size,r.sz,cells.size,none⟩->cq P w D ι' v u
section
variable {g:Rows} {hs:Nat} {env:Env} {a:Act} {o:Oper} {id:Id} {v:AV}
theorem kL {vs:List Value} {cs:List K} (h:vs.mapM FI=some cs):fh P w D ι (cs.map K.av) vs.toArray:=by
 obtain⟨h1,h2⟩:=qK h
 refine⟨by simp[h1],fun j a ha=>?_⟩
 simp only[List.getElem?_map,Option.map_eq_some_iff]at ha
 obtain⟨c,hc,rfl⟩:=ha
 exact⟨c.val,by simpa using h2 j c hc,vL c⟩
theorem jH {t:TypeId} {z:List K} (h:ju P t=some z):∃i v,P.info? t=some i/\i.zero=some v/\v.cells.size=i.size/\v.cells.toList.mapM FI=some z/\z.length=i.size:=by
 unfold ju at h
 split at h
 ·rename_i i hi
  split at h
  ·rename_i v hv
   split at h
   ·rename_i hs
    exact⟨i,v,hi,hv,hs,h,by rw[(qK h).1];simpa using hs⟩
   ·simp at h
  ·simp at h
 ·simp at h
theorem EC {cs:List AV} {cells:Array Value} (h:fh P w D ι cs cells):∀i j c a,[cs][i]? =some c->c[j]? =some a->∃x,cells[i*cs.length+j]? =some x/\cq P w D ι a x:=by
 intro i j c a hi hj
 cases i with
 |zero=>simp at hi;subst hi;simpa using h.2 j a hj
 |succ i=>simp at hi
theorem Qh {t:TypeId} {z:List K} (ho:o.op=.alloc t) (hz:ju P t=some z):Mk P a o w D ι id (.ptr id 0 0) ⟨true,z.length,[z.map K.av]⟩:=by
 obtain⟨i,v,hi,hv,hs,hm,hl⟩:=jH hz
 have hk:=kL (P:=P) (w:=w) (D:=D) (ι:=ι) hm
 refine⟨.pointer (some ⟨w.heap.size,0,none⟩),v.cells,t,?_,rfl,?_,?_,?_,?_,?_⟩
 ·simp only[execOp,ho,Instr.alloc,zeroValue,typeInfo,Sem.run_bind]
  simp[hi,hv,newVar,newRow]
 ·simp[hl,hs]
 ·intro cs dn;simp at dn;subst dn;simp
 ·intro cs dn x hx;simp at dn;subst dn
  obtain⟨c,_,rfl⟩:=List.mem_map.1 hx;exact c.me
 ·have:=EC hk;simpa using this
 ·intro ι' hι
  have:=cq.ptr (P:=P) (w:=w) (D:=D) (ι:=ι') id 0 0 _ hι rfl
  simpa using this
theorem qe {x:AV} {u:Value} (h:cq P w D ι x u) (hc:x.cells.all AV.cell=true):fh P w D ι x.cells u.cells:=by
 obtain⟨h1,f,h2,h3⟩:=h.cells hc
 exact⟨h1,fun j a ha=>⟨f j,h2 j (List.getElem?_eq_some_iff.1 ha).1,h3 j a ha⟩⟩
theorem Qf {t:TypeId} {x:Operand} {x':O} {cs:List AV} (E:bD P w D ι env a) (ho:o.op=.box t x) (hx:cO P x=some x') (hb:cN (cE env x')=some cs):Mk P a o w D ι id (.ptr id 0 0) ⟨true,cs.length,[cs]⟩:=by
 have hr:=cJ E hx
 unfold cN at hb
 split at hb
 ·rename_i dF
  simp at hb;subst hb
  have hk:=qe hr dF
  refine⟨.pointer (some ⟨w.heap.size,0,none⟩),(a.eval x).cells,t,?_,rfl,?_,?_,?_,?_,?_⟩
  ·simp only[execOp,ho,Instr.box,Sem.run_bind]
   simp[newVar,newRow]
  ·simp[hk.1]
  ·intro cs dn;simp at dn;subst dn;rfl
  ·intro cs dn y hy;simp at dn;subst dn
   exact List.all_eq_true.1 dF y hy
  ·exact EC hk
  ·intro ι' hι
   have:=cq.ptr (P:=P) (w:=w) (D:=D) (ι:=ι') id 0 0 _ hι rfl
   simpa using this
 ·simp at hb
theorem foldl_set:∀(vs:List Value) (n off:Nat) (cells:Array Value),off+n+vs.length<=cells.size->((vs.zipIdx n).foldl (fun cs (x:Value×Nat)=>cs.setIfInBounds (off+x.2) x.1) cells).size=cells.size/\
  ∀k,((vs.zipIdx n).foldl (fun cs (x:Value×Nat)=>cs.setIfInBounds (off+x.2) x.1) cells)[k]? =if off+n<=k/\k<off+n+vs.length then vs[k-(off+n)]? else cells[k]?
 |[],n,off,cells,_=>⟨rfl,fun k=>by simp;intro h1 h2;omega⟩
 |v::r,n,off,cells,h=>by
  simp only[List.length_cons]at h
  obtain⟨h1,h2⟩:=foldl_set r (n+1) off (cells.setIfInBounds (off+n) v) (by simp;omega)
  simp only[List.zipIdx_cons,List.foldl_cons]
  refine⟨by rw[h1];simp,fun k=>?_⟩
  rw[h2 k]
  simp only[List.length_cons]
  by_cases hk:k=off+n
  ·subst hk
   rw[if_neg (by omega),if_pos (by omega)]
   simp[show off+n<cells.size by omega]
  ·by_cases uM:off+n<=k/\k<off+n+(r.length+1)
   ·rw[if_pos (by omega),if_pos uM]
    have:k-(off+n)=(k-(off+(n+1)))+1:=by omega
    rw[this,List.getElem?_cons_succ]
   ·rw[if_neg (by omega),if_neg uM,Array.getElem?_setIfInBounds_ne (by omega)]
theorem uB (place:Nat->Option (Nat×Nat)):∀(ps:List (Nat×Value)) (qs:List (Nat×Nat×AV)) (cells:Array Value) (cs res:List AV),fh P w D ι cs cells->(∀a∈cs,a.cell=true)->ps.length=qs.length->
  (∀(k:Nat) i u o' n x,ps[k]? =some (i,u)->qs[k]? =some (o',n,x)->place i=some (o',n)/\cq P w D ι x u)->cF cs qs=some res->∃jd,Instr.fill place cells ps=some jd/\fh P w D ι res jd/\(∀a∈res,a.cell=true)/\res.length=cs.length:=by
 intro ps
 induction ps with
 |nil=>
  intro qs cells cs res hR hf hl _ hv
  cases qs with
  |nil=>simp[cF]at hv;subst hv;exact⟨cells,rfl,hR,hf,rfl⟩
  |cons q r=>simp at hl
 |cons p ps ih=>
  intro qs cells cs res hR hf hl hp hv
  cases qs with
  |nil=>simp at hl
  |cons q qs=>
   obtain⟨i,u⟩:=p
   obtain⟨oo,n,x⟩:=q
   obtain⟨l9,hr⟩:=hp 0 i u oo n x rfl rfl
   unfold cF at hv
   split at hv
   ·rename_i hc
    obtain⟨c1,c2,c3⟩:=hc
    have hk:=qe hr c3
    have hus:u.cells.size=n:=by rw[hk.1,c1]
    have dn:cells.size=cs.length:=hR.1
    unfold Instr.fill
    simp only[l9]
    rw[if_neg (by rw[hus,dn];simp;omega)]
    obtain⟨s1,s2⟩:=foldl_set u.cells.toList 0 oo cells (by simp;omega)
    have e0:(u.cells.zipIdx.foldl (fun cs (x:Value×Nat)=>cs.setIfInBounds (oo+x.2) x.1) cells)=(u.cells.toList.zipIdx 0).foldl (fun cs (x:Value×Nat)=>cs.setIfInBounds (oo+x.2) x.1) cells:=by
     rw[<-Array.foldl_toList];simp
    have uL:=ih qs (u.cells.zipIdx.foldl (fun cs (x:Value×Nat)=>cs.setIfInBounds (oo+x.2) x.1) cells) (cs.take oo++x.cells++cs.drop (oo+n)) res ?_ ?_ (by simpa using hl) (fun k i u o' n x h1 h2=>hp (k+1) i u o' n x (by simpa using h1) (by simpa using h2)) hv
    ·obtain⟨jd,h1,h2,h3,h4⟩:=uL
     refine⟨jd,h1,h2,h3,?_⟩
     rw[h4];simp;omega
    ·rw[e0]
     refine⟨by rw[s1,dn];simp;omega,fun j a ha=>?_⟩
     rw[s2 j]
     simp only[Nat.add_zero,Array.length_toList]
     by_cases hj:oo<=j/\j<oo+u.cells.size
     ·rw[if_pos hj]
      rw[List.append_assoc,List.getElem?_append_right (by simp;omega),List.getElem?_append_left (by simp;omega)]at ha
      simp only[List.length_take]at ha
      rw[show min oo cs.length=oo by omega]at ha
      simpa using hk.2 _ _ ha
     ·rw[if_neg hj]
      by_cases hj2:j<oo
      ·rw[List.append_assoc,List.getElem?_append_left (by simp;omega),List.getElem?_take,if_pos hj2]at ha
       exact hR.2 _ _ ha
      ·rw[List.getElem?_append_right (by simp;omega)]at ha
       simp only[List.length_append,List.length_take,List.getElem?_drop]at ha
       rw[show oo+n+(j-(min oo cs.length+x.cells.length))=j by omega]at ha
       exact hR.2 _ _ ha
    ·intro b hb
     rcases List.mem_append.1 hb with hb|hb
     ·rcases List.mem_append.1 hb with hb|hb
      ·exact hf b (List.mem_of_mem_take hb)
      ·exact List.all_eq_true.1 c3 b hb
     ·exact hf b (List.mem_of_mem_drop hb)
   ·simp at hv
theorem wN {fs:List Field} (h:∀f∈fs,(P.info? f.type).isSome=true):∃zl,fs.mapM (fun f=>(P.info? f.type).map fun i=>(f.offset,i.size))=some zl/\∀(i:Nat) (f:Field) (n:Nat),fs[i]? =some f->dI P f.type=some n->zl[i]? =some (f.offset,n):=by
 induction fs with
 |nil=>exact⟨[],rfl,fun i f n h=>by simp at h⟩
 |cons f r ih=>
  obtain⟨q,h1,h2⟩:=ih (fun x hx=>h x (List.mem_cons_of_mem _ hx))
  obtain⟨i,hi⟩:=Option.isSome_iff_exists.1 (h f (by simp))
  refine⟨(f.offset,i.size)::q,by simp[hi,h1],fun k x n hk hn=>?_⟩
  cases k with
  |zero=>simp at hk;subst hk;simp[dI,hi]at hn;subst hn;rfl
  |succ k=>simp at hk ⊢;exact h2 k x n hk hn
theorem pH {ps:List (Nat×Operand)} {l:List (Nat×O)} (E:bD P w D ι env a) (h:ps.mapM (fun(x:Nat×Operand)=>(cO P x.2).map (x.1,·))=some l):l.length=ps.length/\∀(k i:Nat) (y:O),l[k]? =some (i,y)->∃x,ps[k]? =some (i,x)/\cO P x=some y:=by
 induction ps generalizing l with
 |nil=>simp at h;subst h;simp
 |cons p r ih=>
  simp only[List.mapM_cons,Option.bind_eq_bind,Option.bind_eq_some_iff]at h
  obtain⟨c,hc,pq,dn,h⟩:=h
  simp at h;subst h
  obtain⟨h1,h2⟩:=ih dn
  simp only[Option.map_eq_some_iff]at hc
  obtain⟨y,hy,rfl⟩:=hc
  refine⟨by simp[h1],fun k i z hk=>?_⟩
  cases k with
  |zero=>simp at hk;obtain⟨rfl,rfl⟩:=hk;exact⟨p.2,rfl,hy⟩
  |succ k=>simp at hk ⊢;exact h2 k i z hk
theorem Ci {fs:Array Field} {l:List (Nat×O)} {q:List (Nat×Nat×O)} (h:rH P fs l=some q):q.length=l.length/\∀(k oo n:Nat) (y:O),q[k]? =some (oo,n,y)->∃(i:Nat) (f:Field),l[k]? =some (i,y)/\fs[i]? =some f/\f.offset=oo/\dI P f.type=some n:=by
 induction l generalizing q with
 |nil=>simp[rH]at h;subst h;simp
 |cons p r ih=>
  obtain⟨i,x⟩:=p
  unfold rH at h
  split at h
  ·rename_i f hf
   split at h
   ·rename_i n hn
    simp only[Option.map_eq_some_iff]at h
    obtain⟨q',Ki,rfl⟩:=h
    obtain⟨h1,h2⟩:=ih Ki
    refine⟨by simp[h1],fun k oo m y hk=>?_⟩
    cases k with
    |zero=>simp at hk;obtain⟨rfl,rfl,rfl⟩:=hk;exact⟨i,f,rfl,hf,rfl,hn⟩
    |succ k=>simp only[List.getElem?_cons_succ]at hk ⊢;exact h2 k oo m y hk
   ·simp at h
  ·simp at h
theorem fh.agg {xs:List AV} {vs:Array Value} (h:fh P w D ι xs vs) (hf:∀a∈xs,a.cell=true):cq P w D ι (.agg xs) (.agg vs):=
 .agg xs vs (fun j=>vs.getD j undef) h.1 hf (fun j hj=>by
  have:j<vs.size:=by rw[h.1];exact hj
  simp[this]) (fun j a ha=>by
  obtain⟨u,h1,h2⟩:=h.2 j a ha
  simpa[Array.getD_eq_getD_getElem?,h1]using h2)
theorem Ld {t:TypeId} {ps:Array (Nat×Operand)} {fs:Array Field} {z:List K} {l:List (Nat×O)} {q:List (Nat×Nat×O)} {cs:List AV} (E:bD P w D ι env a) (ho:o.op=.build t ps) (ht:P.underlying t=some (.struct fs)) (hz:ju P t=some z) (hl:rK P ps=some l)
  (qD:∀f∈fs.toList,(P.info? f.type).isSome=true) (hq:rH P fs l=some q) (hv:cF (z.map K.av) (q.map fun(o,n,x)=>(o,n,cE env x))=some cs):nJ P a o w D ι (.agg cs):=by
 obtain⟨it,zv,hi,uS,hs,hm,Eu⟩:=jH hz
 obtain⟨zl,l9,S5⟩:=wN qD
 have hk:=kL (P:=P) (w:=w) (D:=D) (ι:=ι) hm
 obtain⟨n1,r1⟩:=pH E hl
 obtain⟨n2,r2⟩:=Ci hq
 obtain⟨jd,h1,h2,h3,_⟩:=uB (P:=P) (w:=w) (D:=D) (ι:=ι) (zl.toArray[·]?) (ps.toList.map fun(i,x)=>(i,a.eval x)) (q.map fun(o,n,x)=>(o,n,cE env x)) zv.cells _ cs (by simpa using hk)
  (fun b hb=>by obtain⟨c,_,rfl⟩:=List.mem_map.1 hb;exact c.me) (by simp[n2,n1]) (fun k i u o' n x wC uM=>by
   simp only[List.getElem?_map,Option.map_eq_some_iff]at wC uM
   obtain⟨⟨i',x'⟩,hp,e1⟩:=wC
   obtain⟨⟨o2,n',y⟩,Ki,e2⟩:=uM
   simp only[Prod.mk.injEq]at e1 e2
   obtain⟨rfl,rfl⟩:=e1
   obtain⟨rfl,rfl,rfl⟩:=e2
   obtain⟨i2,f,HP,hf,rfl,hn⟩:=r2 _ _ _ _ Ki
   obtain⟨x2,z7,hc⟩:=r1 _ _ _ HP
   rw[hp]at z7
   simp only[Option.some.injEq,Prod.mk.injEq]at z7
   obtain⟨rfl,rfl⟩:=z7
   exact⟨by simpa using S5 _ _ _ (by simpa using hf) hn,cJ E hc⟩) hv
 refine⟨.agg jd,?_,h2.agg h3⟩
 have hb:P.built t ((ps.map fun(i,x)=>(i,a.eval x)).toList)=some jd:=by
  unfold Program.built
  simp only[hi,ht,uS,l9]
  simpa using h1
 simp only[execOp,ho,Sem.run_bind,run_build w t _ _ hb,Result.andThen_ok,Sem.run_pure]
theorem Jn {t e:TypeId} {len n:Nat} {ps:Array (Nat×Operand)} {z:List K} {l:List (Nat×O)} {cs:List AV} (E:bD P w D ι env a) (ho:o.op=.build t ps) (ht:P.underlying t=some (.array len e)) (hz:ju P t=some z) (hl:rK P ps=some l) (hn:dI P e=some n)
  (hv:cF (z.map K.av) ((l.map fun(x:Nat×O)=>(x.1*n,n,x.2)).map fun(o,n,x)=>(o,n,cE env x))=some cs):nJ P a o w D ι (.agg cs):=by
 obtain⟨it,zv,hi,uS,hs,hm,Eu⟩:=jH hz
 have hk:=kL (P:=P) (w:=w) (D:=D) (ι:=ι) hm
 obtain⟨n1,r1⟩:=pH E hl
 obtain⟨ie,El,e9⟩:∃ie,P.info? e=some ie/\ie.size=n:=by simpa[dI]using hn
 obtain⟨jd,h1,h2,h3,_⟩:=uB (P:=P) (w:=w) (D:=D) (ι:=ι) (fun i=>some (i*ie.size,ie.size)) (ps.toList.map fun(i,x)=>(i,a.eval x)) ((l.map fun(x:Nat×O)=>(x.1*n,n,x.2)).map fun(o,n,x)=>(o,n,cE env x)) zv.cells _ cs (by simpa using hk)
  (fun b hb=>by obtain⟨c,_,rfl⟩:=List.mem_map.1 hb;exact c.me) (by simp[n1]) (fun k i u o' n' x wC uM=>by
   simp only[List.getElem?_map,Option.map_eq_some_iff]at wC uM
   obtain⟨⟨i',x'⟩,hp,e1⟩:=wC
   obtain⟨⟨o2,n2,y⟩,⟨⟨i2,y2⟩,HP,e3⟩,e2⟩:=uM
   simp only[Prod.mk.injEq]at e1 e2 e3
   obtain⟨rfl,rfl⟩:=e1
   obtain⟨rfl,rfl,rfl⟩:=e2
   obtain⟨rfl,rfl,rfl⟩:=e3
   obtain⟨x2,z7,hc⟩:=r1 _ _ _ HP
   rw[hp]at z7
   simp only[Option.some.injEq,Prod.mk.injEq]at z7
   obtain⟨rfl,rfl⟩:=z7
   exact⟨by rw[e9],cJ E hc⟩) hv
 refine⟨.agg jd,?_,h2.agg h3⟩
 have hb:P.built t ((ps.map fun(i,x)=>(i,a.eval x)).toList)=some jd:=by
  unfold Program.built
  simp only[hi,ht,uS,El]
  simpa using h1
 simp only[execOp,ho,Sem.run_bind,run_build w t _ _ hb,Result.andThen_ok,Sem.run_pure]
theorem uA:∀(vs:List AV) (sz i:Nat) (rs:List (List AV)) (cs:List AV),0<sz->cs.length=(i+vs.length)*sz->rowsOf sz vs=some rs->
  cF cs ((vs.zipIdx i).map fun(v,j)=>(j*sz,sz,v))=some (cs.take (i*sz)++rs.flatten)/\rs.length=vs.length/\(∀c∈rs,c.length=sz)/\∀c∈rs,∀x∈c,x.cell=true
 |[],sz,i,rs,cs,_,hl,h=>by
  simp[rowsOf]at h;subst h
  simp at hl
  simp[cF,List.take_of_length_le (show cs.length<=i*sz by omega)]
 |v::r,sz,i,rs,cs,e9,hl,h=>by
  simp only[rowsOf,Option.bind_eq_some_iff,Option.map_eq_some_iff]at h
  obtain⟨c,hc,rs',xG,rfl⟩:=h
  unfold rowOf at hc
  split at hc
  ·rename_i AH
   simp at hc;subst hc
   obtain⟨pr,yP⟩:=AH
   simp only[List.length_cons]at hl
   have hmul:(i+(r.length+1))*sz=i*sz+sz+r.length*sz:=by rw[Nat.add_mul,Nat.add_mul];omega
   have ih:=uA r sz (i+1) rs' (cs.take (i*sz)++v.cells++cs.drop (i*sz+sz)) e9 (by
    simp[pr];rw[Nat.add_mul,Nat.add_mul];omega) xG
   refine⟨?_,by simp[ih.2.1],?_,?_⟩
   ·simp only[List.zipIdx_cons,List.map_cons,cF]
    rw[if_pos ⟨pr,by omega,yP⟩,ih.1]
    congr 1
    rw[List.flatten_cons,<-List.append_assoc]
    congr 1
    rw[Nat.add_mul,Nat.one_mul,List.take_append_of_le_length (by simp[pr];omega)]
    rw[List.take_of_length_le (by simp[pr];omega)]
   ·intro c' kz;rcases List.mem_cons.1 kz with rfl|kz
    ·exact pr
    ·exact ih.2.2.1 c' kz
   ·intro c' kz;rcases List.mem_cons.1 kz with rfl|kz
    ·exact List.all_eq_true.1 yP
    ·exact ih.2.2.2 c' kz
  ·simp at hc
theorem flat_get {α:Type} {nO:List (List α)} {sz:Nat} (h:∀cs∈nO,cs.length=sz) {i j:Nat} {cs:List α} {a:α} (hi:nO[i]? =some cs) (hj:cs[j]? =some a):nO.flatten[i*sz+j]? =some a:=by
 induction nO generalizing i with
 |nil=>simp at hi
 |cons c r ih=>
  have hc:c.length=sz:=h c (by simp)
  cases i with
  |zero=>
   simp at hi;subst hi
   have dz:=(List.getElem?_eq_some_iff.1 hj).1
   rw[List.flatten_cons,List.getElem?_append_left (by omega)];simpa using hj
  |succ i=>
   rw[List.flatten_cons,List.getElem?_append_right (by rw[hc,Nat.succ_mul];omega)]
   have:(i+1)*sz+j-c.length=i*sz+j:=by rw[hc,Nat.succ_mul];omega
   rw[this]
   exact ih (fun cs dn=>h cs (List.mem_cons_of_mem _ dn)) (by simpa using hi)
theorem Hz {α:Type} {nO:List (List α)} {sz:Nat} (h:∀cs∈nO,cs.length=sz):nO.flatten.length=nO.length*sz:=by
 induction nO with
 |nil=>simp
 |cons c r ih=>
  rw[List.flatten_cons,List.length_append,h c (by simp),ih (fun cs dn=>h cs (List.mem_cons_of_mem _ dn)),List.length_cons,Nat.succ_mul];omega
theorem oD {zv:Value} {z:List K} {n:Nat} (hm:zv.cells.toList.mapM FI=some z) (k5:0<z.length):∀k,k<n->∃c,z[k % z.length]? =some c/\((Array.range n).map (zv.cells[· % zv.cells.size]!))[k]? =some c.val:=by
 intro k hk
 obtain⟨h1,h2⟩:=qK hm
 have e9:zv.cells.size=z.length:=by simpa using h1.symm
 have dz:k % z.length<z.length:=Nat.mod_lt _ k5
 refine⟨z[k % z.length],List.getElem?_eq_getElem dz,?_⟩
 have h3:=h2 _ _ (List.getElem?_eq_getElem dz)
 simp only[Array.getElem?_toList]at h3
 have AN:k % z.length<zv.cells.size:=by rw[e9];exact dz
 rw[Array.getElem?_map,Array.getElem?_range,if_pos hk]
 simp only[Option.map_some]
 rw[e9,getElem!_pos zv.cells (k % z.length) AN]
 rw[Array.getElem?_eq_getElem AN]at h3
 exact h3
theorem Il {t e:TypeId} {len sz:Nat} {ps:Array (Nat×Operand)} {z:List K} {l:List (Nat×O)} {rs:List (List AV)} (E:bD P w D ι env a) (ho:o.op=.buildSlice t len ps) (ht:P.underlying t=some (.slice e)) (e9:dI P e=some (sz+1)) (hz:ju P e=some z)
  (hl:rK P ps=some l) (Km:len*(sz+1)<=4096) (PZ:l.map (·.1)=List.range len) (hv:rowsOf (sz+1) (l.map fun x=>cE env x.2)=some rs):Mk P a o w D ι id (.own id 0 len) ⟨true,sz+1,rs⟩:=by
 obtain⟨it,zv,hi,uS,hs,hm,Eu⟩:=jH hz
 have jr:it.size=sz+1:=by simpa[dI,hi]using e9
 obtain⟨n1,r1⟩:=pH E hl
 have Nb:l.length=len:=by have:=congrArg List.length PZ;simpa using this
 by_cases h0:len=0
 ·subst h0
  have AM:l=[]:=List.length_eq_zero_iff.1 Nb
  subst AM
  simp[rowsOf]at hv;subst hv
  have OI:ps= #[]:=by
   apply Array.ext';apply List.eq_nil_of_length_eq_zero;rw[<-n1];rfl
  subst OI
  refine⟨.slice (some ⟨w.heap.size,0,none⟩) 0 0, #[],e,?_,rfl,by simp,by simp,by simp,fun i j cs x hi=>by simp at hi,fun ι' hι=>?_⟩
  ·simp[execOp,ho,Instr.buildSlice,run_underlying ht,sizeOf,typeInfo,hi,Instr.fill,newRow,Array.range_zero']
  ·exact .own _ 0 0 0 0 _ hι rfl (Nat.le_refl _) (.inl rfl) (by simp) (by simp[maxLen])
 ·have xI:fh P w D ι ((List.range (len*(sz+1))).map fun k=>(z.getD (k % z.length) .cj).av) ((Array.range (len*(sz+1))).map (zv.cells[· % zv.cells.size]!)):=by
   refine⟨by simp,fun j x hx=>?_⟩
   simp only[List.getElem?_map,Option.map_eq_some_iff]at hx
   obtain⟨k,hk,rfl⟩:=hx
   have kW:=(List.getElem?_eq_some_iff.1 hk).1
   simp at kW
   rw[List.getElem?_range kW]at hk
   injection hk with hk
   subst hk
   obtain⟨c,hc,Su⟩:=oD hm (by rw[Eu,jr];omega) j kW
   exact⟨c.val,Su,by rw[List.getD_eq_getElem?_getD,hc];exact vL c⟩
  obtain⟨f1,f2,f3,f4⟩:=uA (l.map fun x=>cE env x.2) (sz+1) 0 rs ((List.range (len*(sz+1))).map fun k=>(z.getD (k % z.length) .cj).av) (by omega) (by simp[Nb]) hv
  obtain⟨jd,h1,h2,h3,h4⟩:=uB (P:=P) (w:=w) (D:=D) (ι:=ι) (fun i=>some (i*it.size,it.size)) (ps.toList.map fun(i,x)=>(i,a.eval x)) _ _ _ _ xI
   (fun b hb=>by obtain⟨c,_,rfl⟩:=List.mem_map.1 hb;exact K.me _) (by simp[n1]) (fun k i u o' n x wC uM=>by
   simp only[List.getElem?_map,Option.map_eq_some_iff]at wC uM
   obtain⟨⟨i',x'⟩,hp,e1⟩:=wC
   obtain⟨⟨v2,j2⟩,Ki,e2⟩:=uM
   simp only[Prod.mk.injEq]at e1 e2
   obtain⟨rfl,rfl⟩:=e1
   obtain⟨rfl,rfl,rfl⟩:=e2
   rw[List.getElem?_zipIdx]at Ki
   simp only[List.getElem?_map,Option.map_map,Option.map_eq_some_iff,Function.comp_apply,Prod.mk.injEq,Nat.zero_add]at Ki
   obtain⟨⟨i2,y⟩,HP,rfl,rfl⟩:=Ki
   obtain⟨x2,z7,hc⟩:=r1 _ _ _ HP
   rw[hp]at z7
   simp only[Option.some.injEq,Prod.mk.injEq]at z7
   obtain⟨rfl,rfl⟩:=z7
   have xD:(l.map (·.1))[k]? =some i':=by rw[List.getElem?_map,HP];rfl
   have kW:=(List.getElem?_eq_some_iff.1 xD).1
   rw[PZ]at xD
   simp at kW
   rw[List.getElem?_range (by omega)]at xD
   injection xD with xD
   subst xD
   exact⟨by rw[jr],cJ E hc⟩) f1
  simp only[Nat.zero_mul,List.take_zero,List.nil_append,List.length_map]at h2 h3 h4 f2
  have dn:jd.size=len*(sz+1):=by rw[h2.1,h4];simp
  refine⟨.slice (some ⟨w.heap.size,0,none⟩) len len,jd,e,?_,rfl,?_,f3,f4,fun i j cs x qi hj=>h2.2 _ _ (flat_get f3 qi hj),fun ι' hι=>?_⟩
  ·have fM:=run_buildSlice (P:=P) w t e len (ps.map fun(i,x)=>(i,a.eval x)) jd it zv ht hi uS (by rw[jr];omega) (by rw[jr];exact Nat.mul_ne_zero h0 (by omega)) (by rw[<-jr]at h1;simpa using h1)
   simp only[execOp,ho,Sem.run_bind,fM,Result.andThen_ok,Sem.run_pure]
  ·dsimp only;rw[f2,Nb,dn];exact Nat.le_refl _
  ·refine .own _ 0 len 0 len _ hι rfl (Nat.le_refl _) (.inr (by simp)) ?_ (by simp only[maxLen];have:=Nat.le_mul_of_pos_right len (show 0<sz+1 by omega);omega)
   dsimp only;rw[dn];simp
theorem FX {t e:TypeId} {it:TypeInfo} {m:Nat} {z:List K} {l c:Operand} {l' c':O} {n:Nat} {r:Row} (E:bD P w D ι env a) (ho:o.op=.makeSlice t l c) (ht:P.underlying t=some (.slice e)) (e9:dI P e=some (m+1)) (hz:ju P e=some z) (Kc:P.info? e=some it) (hby:it.bytes<=32768)
  (hl:cO P l=some l') (hc:cO P c=some c') (hv:iH z (cE env l') (cE env c')=some (n,r)):Mk P a o w D ι id (.own id 0 n) r:=by
 obtain⟨it',zv,hi,uS,hs,hm,Eu⟩:=jH hz
 rw[Kc]at hi;injection hi with hi;subst hi
 have jr:it.size=m+1:=by simpa[dI,Kc]using e9
 unfold iH at hv
 split at hv
 ·rename_i k1 ln k2 cn e1 e2
  split at hv
  ·rename_i hb
   obtain⟨b1,b2,b3⟩:=hb
   simp at hv
   obtain⟨rfl,rfl⟩:=hv
   have r1:=dp (e1▸cJ E hl)
   have r2:=dp (e2▸cJ E hc)
   unfold dP at b3
   have Ly:(it.bytes:Int)*cn<=281474976710656:=by
    have h1:(it.bytes:Int)<=32768:=by omega
    have h2:(it.bytes:Int)*cn<=32768*16777216:=Int.mul_le_mul h1 (by omega) (by omega) (by omega)
    omega
   have fM:=run_make (P:=P) w t e it zv ht Kc uS k1 k2 ln cn b1 b2 Ly (by omega)
   have j5:∀k,k<cn.toNat*it.size->∃x,z[k % z.length]? =some x/\(madeCells zv.cells (cn.toNat*it.size))[k]? =some x.val:=fun k hk=>oD hm (by rw[Eu,jr];omega) k hk
   refine⟨.slice (some ⟨w.heap.size,0,none⟩) ln.toNat cn.toNat,madeCells zv.cells (cn.toNat*it.size),e,by simp only[execOp,ho,r1,r2,Sem.run_bind,fM,Result.andThen_ok,Sem.run_pure],rfl,?_,?_,?_,?_,fun ι' hι=>?_⟩
   ·simp only[List.length_replicate,size_madeCells,Eu]
    exact Nat.mul_le_mul_right _ (by omega)
   ·intro cs dn
    have:=List.eq_of_mem_replicate dn
    subst this;simp
   ·intro cs dn x hx
    have:=List.eq_of_mem_replicate dn
    subst this
    obtain⟨c,_,rfl⟩:=List.mem_map.1 hx;exact c.me
   ·intro i j cs x qi hj
    have ly:=(List.getElem?_eq_some_iff.1 qi).1
    have:=List.eq_of_mem_replicate (List.mem_of_getElem? qi)
    subst this
    simp only[List.length_replicate]at ly
    simp only[List.getElem?_map,Option.map_eq_some_iff]at hj
    obtain⟨q,hq,rfl⟩:=hj
    have gw:=(List.getElem?_eq_some_iff.1 hq).1
    dsimp only
    obtain⟨x,hx,z7⟩:=j5 (i*z.length+j) (by
     rw[<-Eu]
     calc i*z.length+j<i*z.length+z.length:=by omega
      _=(i+1)*z.length:=by rw[Nat.add_mul,Nat.one_mul]
      _<=cn.toNat*z.length:=Nat.mul_le_mul_right _ (by omega))
    rw[Nat.mul_comm i,Nat.mul_add_mod,Nat.mod_eq_of_lt gw,hq]at hx
    injection hx with hx;subst hx
    exact⟨_,by rw[Nat.mul_comm i]at z7 ⊢;exact z7,vL q⟩
   ·refine .own _ 0 _ 0 _ _ hι rfl (by omega) (.inr (by simp)) ?_ (by simp only[maxLen];omega)
    dsimp only;rw[size_madeCells,Eu];simp
  ·simp at hv
 ·simp at hv
end
end Go.Proofs.YtgoelphibofcmaaGreat.V

namespace Go.Proofs.YtgoelphibofcmaaGreat.V
open Go.RowKit
variable {P:Program} {w w':World} {D D':Nat->Prop} {ι ι':Names}
def DT (P:Program) (k:TypeId) (m:MK):Prop:=
 (∃s,m=⟨false,[s]⟩/\fa P k=some s)∨
 (∃fs ts,m=⟨true,ts⟩/\P.underlying k=some (.struct fs)/\ee P 4 0 fs.toList=some ts/\P.stoodInHeld k=false/\∀f∈fs.toList,(fa P f.type).isSome=true)
theorem qu {t:TypeId} {m:MK} {z:K} (h:rJ P t=some (m,z)):∃k e i zv,P.underlying t=some (.map k e)/\P.info? e=some i/\i.zero=some zv/\FI zv=some z/\DT P k m:=by
 unfold rJ at h
 split at h
 ·rename_i k e ht
  split at h
  ·rename_i zv s h1 h2 h3
   simp only[Option.map_eq_some_iff,Prod.mk.injEq]at h
   obtain⟨z',hz,rfl,rfl⟩:=h
   simp only[Option.bind_eq_some_iff]at h2
   obtain⟨i,hi,uS⟩:=h2
   exact⟨k,e,i,zv,ht,hi,uS,hz,.inl ⟨s,rfl,h3⟩⟩
  ·rename_i zv fs h1 h2 h3 h4
   split at h
   ·rename_i ts z' wT hz
    split at h
    ·rename_i hc
     simp only[Option.some.injEq,Prod.mk.injEq]at h
     obtain⟨rfl,rfl⟩:=h
     simp only[Option.bind_eq_some_iff]at h2
     obtain⟨i,hi,uS⟩:=h2
     simp only[Bool.not_eq_true',List.all_eq_true]at hc
     exact⟨k,e,i,zv,ht,hi,uS,hz,.inr ⟨fs,ts,rfl,h4,wT,hc.1,hc.2⟩⟩
    ·cases h
   ·cases h
  ·cases h
 ·cases h
theorem vP {t:TypeId} {s:TS} (ht:fa P t=some s) (em:Bool) (n:Nat) (v:Value):(Instr.checkKey em (n+1) t v).run P w=.ok () w:=by
 unfold Instr.checkKey
 cases s with
 |tB=>simp[run_underlying (oO ht)]
 |tS=>simp[run_underlying (oQ ht)]
 |tI=>
  obtain⟨q,hq⟩:=oP ht
  simp[run_underlying hq]
theorem vQ (em:Bool) (n:Nat) (vs:Array Value):∀(d:Nat) (fs:List Field) (off:Nat) (ts:List TS),ee P (d+1) off fs=some ts->(∀f∈fs,(fa P f.type).isSome=true)->off+ts.length<=vs.size->
  Sem.run P (forIn fs PUnit.unit fun f (_:PUnit)=>if f.name≠ "_" then do
    let x <-Go.part f.type vs f.offset
    Instr.checkKey em (n+1) f.type x
    pure (ForInStep.yield PUnit.unit)
   else pure (ForInStep.yield PUnit.unit)) w=Result.ok PUnit.unit w
 |d,[],off,ts,_,_,_=>by simp
 |d,f::r,off,ts,hf,hs,hl=>by
  rw[xu]at hf
  split at hf
  ·rename_i hcond
   obtain⟨ho,fZ⟩:=hcond
   split at hf
   ·rename_i s ON
    split at hf
    ·rename_i tH
     simp only[Option.map_eq_some_iff]at hf
     obtain⟨L3,hr,rfl⟩:=hf
     simp only[List.length_cons]at hl
     have ih:=vQ em n vs d r (off+1) L3 hr (fun f hf=>hs f (List.mem_cons_of_mem _ hf)) (by omega)
     have hu:vs[off]? =some vs[off]:=by simp
     simp only[List.forIn_cons,Sem.run_bind,if_pos fZ,ho,lW tH hu,Result.andThen_ok,vP ON,Sem.run_pure]
     exact ih
    ·cases hf
   ·rename_i hn
    have:=hs f (by simp)
    rw[hn]at this;cases this
  ·cases hf
theorem Dr {k:TypeId} {m:MK} (hk:DT P k m) (em:Bool) (key:AV) (u:Value) (tH:key.isAgg=m.ka) (hlen:key.cells.length=m.ks) (hr:cq P w D ι key u):(Instr.checkKey em 10000 k u).run P w=.ok () w:=by
 rcases hk with⟨s,rfl,hs⟩|⟨fs,ts,rfl,qD,wT,dc,dF⟩
 ·exact vP hs em 9999 u
 ·cases key<;>simp[AV.isAgg]at tH
  rename_i cs
  obtain⟨vs,f,rfl,h1,_⟩:=iF hr
  unfold Instr.checkKey
  simp only[Sem.run_bind,run_underlying qD,Result.andThen_ok]
  rw[<-Array.forIn_toList]
  have h:=vQ (P:=P) (w:=w) em 9998 vs 3 fs.toList 0 ts wT dF (by simp[AV.cells,MK.ks]at hlen;omega)
  rw[h]
  rfl
theorem Ha (a b:ByteArray):(a==b)=decide (a=b):=by
 by_cases h:a=b
 ·subst h;rw[decide_eq_true rfl]
  obtain⟨x⟩:=a
  show(x==x)=true
  simp
 ·rw[decide_eq_false h,Bool.eq_false_iff]
  intro hc
  obtain⟨x⟩:=a
  obtain⟨y⟩:=b
  exact h (by rw[show x=y by simpa using(show(x==y)=true from hc)])
theorem IM {t:TypeId} {s:TS} {x y:AV} {u v:Value} {b:Bool} {d:TypeDesc} (ht:fa P t=some s) (hd:P.underlying t=some d) (he:gr s x y=some b) (hx:cq P w D ι x u) (hy:cq P w D ι y v):Instr.sameNow d u v=some b:=by
 unfold gr at he
 split at he
 ·rename_i k n k' n'
  split at he
  ·rename_i hk
   subst hk
   simp at he;subst he
   obtain⟨q,hq⟩:=oP ht
   rw[hd]at hq;injection hq with hq;subst hq
   rw[dp hx,dp hy]
   simp[Instr.sameNow]
   rfl
  ·cases he
 ·simp at he;subst he
  have hq:=oO ht
  rw[hd]at hq;injection hq with hq;subst hq
  rw[eX hx,eX hy];rfl
 ·rename_i a c
  simp at he;subst he
  have hq:=oQ ht
  rw[hd]at hq;injection hq with hq;subst hq
  rw[fq hx,fq hy]
  simp only[Instr.sameNow,Ha]
 ·cases he
def Found (es:List MapEntry) (i:Nat) (r:Option Nat) (res:Option (Nat×Value)):Prop:=(r=none/\res=none)∨∃j e,r=some (i+j)/\es[j]? =some e/\res=some (i+j,e.val)
theorem uD {e:MapEntry} {es:List MapEntry} {i:Nat} {r:Option Nat} {res:Option (Nat×Value)} (h:Found es (i+1) r res):Found (e::es) i r res:=by
 rcases h with h|⟨j,x,h1,h2,h3⟩
 ·exact .inl h
 ·exact .inr ⟨j+1,x,by rw[h1];congr 1;omega,by simpa using h2,by rw[h3];congr 2;omega⟩
theorem Ax {t:TypeId} {s:TS} {d:TypeDesc} {x:AV} {u:Value} (ht:fa P t=some s) (hd:P.underlying t=some d) (hx:cq P w D ι x u):∀(rows:List (List AV)) (es:List MapEntry) (i:Nat) (r:Option Nat),es.length=rows.length->
  (∀(j:Nat) (cs:List AV),rows[j]? =some cs->∃(e:MapEntry) (kv:AV),es[j]? =some e/\cs.head? =some kv/\cq P w D ι kv e.key)->fN ⟨false,[s]⟩ [x] rows i=some r->∃res,Instr.findNow d u es i=some res/\Found es i r res
 |[],[],i,r,_,_,h=>by
  simp[fN]at h;subst h
  exact⟨none,rfl,.inl ⟨rfl,rfl⟩⟩
 |[],e::es,i,r,hl,_,h=>by simp at hl
 |cs::rows,[],i,r,hl,_,h=>by simp at hl
 |cs::rows,e::es,i,r,hl,hr,h=>by
  obtain⟨e',kv,J7,hk,gp⟩:=hr 0 cs rfl
  simp at J7;subst J7
  have dn:cs.take (MK.ks ⟨false,[s]⟩)=[kv]:=by
   cases cs with
   |nil=>simp at hk
   |cons a l=>simp at hk;subst hk;simp[MK.ks]
  unfold fN at h
  rw[dn]at h
  cases hq:gr s x kv with
  |none=>simp[e8,hq]at h
  |some b=>
   have hs:=IM ht hd hq hx gp
   cases b with
   |true=>
    simp[e8,hq]at h;subst h
    exact⟨some (i,e.val),by simp[Instr.findNow,hs],.inr ⟨0,e,rfl,rfl,rfl⟩⟩
   |false=>
    simp[e8,hq]at h
    obtain⟨res,h1,h2⟩:=Ax ht hd hx rows es (i+1) r (by simpa using hl) (fun j cs hj=>hr (j+1) cs (by simpa using hj)) h
    exact⟨res,by simp[Instr.findNow,hs,h1],uD h2⟩
theorem pA {t:TypeId} {fs:Array Field} {ts:List TS} {xs ys:List AV} {vs us:Array Value} {b:Bool} (qD:P.underlying t=some (.struct fs)) (dc:P.stoodInHeld t=false) (wT:ee P 4 0 fs.toList=some ts) (hx:fh P w D ι xs vs) (hy:fh P w D ι ys us) (hv:e8 ts xs ys=some b):(Op.equal t (.agg vs) (.agg us)).run P w=.ok b w:=by
 obtain⟨l1,l2⟩:=qz hv
 have q:=qT (w:=w) 4 fs.toList 0 ts wT 9998 (by omega) xs ys vs us b hx hy (by simpa[List.take_of_length_le,l1,l2]using hv)
 have LC:P.fieldsOf t=fs:=by simp[Program.fieldsOf,qD]
 unfold Op.equal
 rw[show Op.maxDepth=9999+1 from rfl,run_equalIn_struct w 9999 t _ _ (by rw[LC];exact qD) dc,LC,q]
theorem qR {cs:List AV} {v:Value} (h:cq P w D ι (.agg cs) v):∃vs,v=.agg vs/\fh P w D ι cs vs:=by
 obtain⟨vs,f,rfl,n1,_,f1,r1⟩:=iF h
 exact⟨vs,rfl,n1,fun j a ha=>⟨f j,f1 j (List.getElem?_eq_some_iff.1 ha).1,r1 j a ha⟩⟩
theorem Aw {t:TypeId} {fs:Array Field} {ts:List TS} {xs:List AV} {vs:Array Value} (qD:P.underlying t=some (.struct fs)) (dc:P.stoodInHeld t=false) (wT:ee P 4 0 fs.toList=some ts) (hx:fh P w D ι xs vs):∀(rows:List (List AV)) (es:List MapEntry) (i:Nat) (r:Option Nat),es.length=rows.length->
  (∀(j:Nat) (cs:List AV),rows[j]? =some cs->∃e:MapEntry,es[j]? =some e/\cq P w D ι (.agg (cs.take ts.length)) e.key)->fN ⟨true,ts⟩ xs rows i=some r->∃res,(Instr.findAsking t (.agg vs) es i).run P w=.ok res w/\Found es i r res
 |[],[],i,r,_,_,h=>by
  simp[fN]at h;subst h
  exact⟨none,by simp[Instr.findAsking],.inl ⟨rfl,rfl⟩⟩
 |[],e::es,i,r,hl,_,h=>by simp at hl
 |cs::rows,[],i,r,hl,_,h=>by simp at hl
 |cs::rows,e::es,i,r,hl,hr,h=>by
  obtain⟨e',J7,gp⟩:=hr 0 cs rfl
  simp at J7;subst J7
  obtain⟨us,hk,hy⟩:=qR gp
  unfold fN at h
  simp only[MK.ks]at h
  split at h
  ·rename_i hq
   simp at h;subst h
   have q:=pA qD dc wT hx hy hq
   exact⟨some (i,e.val),by simp[Instr.findAsking,hk,q],.inr ⟨0,e,rfl,rfl,rfl⟩⟩
  ·rename_i hq
   have q:=pA qD dc wT hx hy hq
   obtain⟨res,h1,h2⟩:=Aw qD dc wT hx rows es (i+1) r (by simpa using hl) (fun j cs hj=>hr (j+1) cs (by simpa using hj)) h
   exact⟨res,by simp[Instr.findAsking,hk,q,h1],uD h2⟩
  ·cases h
theorem uu {a:AV} (h:a.isAgg=false):a.cells=[a]:=by cases a<;>simp_all [AV.isAgg,AV.cells]
theorem uC {k:TypeId} {m:MK} {B:rz} {r:Row} (hk:DT P k m) {key:AV} {u:Value} (hr:cq P w D ι key u) {es:Array MapEntry} (e9:es.size=r.rows.length)
  (hM:∀(i:Nat) (cs:List AV),r.rows[i]? =some cs->∃(e:MapEntry) (kv vv:AV),es[i]? =some e/\part m.ka m.ks cs=some kv/\cs[m.ks]? =some vv/\cq P w D ι kv e.key/\cq P w D ι vv e.val) {fi:Option Nat} (h:fE m key r.rows=some fi):
  (∀em,(Instr.checkKey em 10000 k u).run P w=.ok () w)/\∃res,(Instr.findKey k u es.toList).run P w=.ok res w/\Found es.toList 0 fi res:=by
 unfold fE at h
 split at h
 ·rename_i hc
  obtain⟨c1,c2,c3⟩:=hc
  refine⟨fun em=>Dr hk em key u c1 c2 hr,?_⟩
  rcases hk with⟨s,rfl,hs⟩|⟨fs,ts,rfl,qD,wT,dc,dF⟩
  ·rw[uu c1]at h
   have hd:∃d,P.underlying k=some d:=by
    cases s with
    |tB=>exact⟨_,oO hs⟩
    |tS=>exact⟨_,oQ hs⟩
    |tI=>obtain⟨q,hq⟩:=oP hs;exact⟨_,hq⟩
   obtain⟨d,hd⟩:=hd
   obtain⟨res,h1,h2⟩:=Ax hs hd hr r.rows es.toList 0 fi (by simpa using e9) (fun j cs hj=>by
    obtain⟨e,kv,vv,q1,q2,_,q4,_⟩:=hM j cs hj
    exact⟨e,kv,by simpa using q1,by simpa[part]using q2,q4⟩) h
   exact⟨res,by simp[Instr.findKey,run_underlying hd,h1],h2⟩
  ·cases key<;>simp[AV.isAgg]at c1
   rename_i cs
   obtain⟨vs,rfl,hL⟩:=qR hr
   obtain⟨res,h1,h2⟩:=Aw qD dc wT hL r.rows es.toList 0 fi (by simpa using e9) (fun j cs hj=>by
    obtain⟨e,kv,vv,q1,q2,_,q4,_⟩:=hM j cs hj
    unfold part at q2
    simp only[if_true]at q2
    split at q2
    ·simp only[Option.some.injEq]at q2;subst q2
     exact⟨e,by simpa using q1,q4⟩
    ·cases q2) h
   exact⟨res,(run_findKey_eq w (by simp[qD]) _ _).trans h1,h2⟩
 ·cases h
section
variable {g:Rows} {hs:Nat} {env:Env} {a:Act} {o:Oper} {id:Id} {v:AV}
theorem zd {m:MK} {x:AV} {u:Value} {p:Id×Row} (S:fU P hs D ι g w) (hr:cq P w D ι x u) (h:eh g m x=some p):∃B,u=.map (some B.b)/\g p.1=some p.2/\ι p.1=some B/\B.k=some (.map m)/\Ll P w D ι B m p.2:=by
 unfold eh at h
 split at h
 ·rename_i i m'
  split at h
  ·rename_i hm
   subst hm
   simp only[Option.map_eq_some_iff]at h
   obtain⟨r,hg,rfl⟩:=h
   obtain⟨B,rfl,hB,hk⟩:=EF hr
   obtain⟨B',dr,R,_⟩:=S.row i r hg
   rw[hB]at dr;injection dr with dr;subst dr
   exact⟨B,rfl,hg,hB,hk,(R.map _ hk).2⟩
  ·cases h
 ·cases h
theorem Og {t:TypeId} {x k:Operand} {ok:Bool} {m:MK} {z:K} {x' k':O} {mr:Option Row} (S:fU P hs D ι g w) (E:bD P w D ι env a) (ho:o.op=.lookup t x k ok) (hc:rJ P t=some (m,z)) (hx:cO P x=some x') (hk:cO P k=some k')
  (hv:bF (.look m ok z) [cE env x',cE env k'] g id=some (v,mr)):mr=none/\nJ P a o w D ι v:=by
 obtain⟨kt,e,i,zv,ht,hi,uS,Rh,hK⟩:=qu hc
 simp only[bF,Option.bind_eq_some_iff,Option.map_eq_some_iff,Prod.mk.injEq]at hv
 obtain⟨p,hp,fi,HM,y,hy,rfl,rfl⟩:=hv
 obtain⟨B,hu,hg,hB,tG,es,clock,hb,e9,hlen,hM⟩:=zd S (cJ E hx) hp
 obtain⟨Jv,res,hf,hF⟩:=uC (B:=B) hK (cJ E hk) e9 hM HM
 have key:∃val,(match res with|some (_,v)=>(v,true)|none=>(zv,false))=(val,fi.isSome)/\cq P w D ι y val:=by
  rcases hF with⟨rfl,rfl⟩|⟨j,en,rfl,he,rfl⟩
  ·simp only[eu,Option.some.injEq]at hy;subst hy
   refine⟨zv,rfl,?_⟩
   rw[yX Rh];exact vL z
  ·simp only[eu,Option.bind_eq_some_iff,Nat.zero_add]at hy
   obtain⟨cs,dn,hy⟩:=hy
   obtain⟨e',kv,vv,q1,_,q3,_,q5⟩:=hM _ cs dn
   rw[hy]at q3;injection q3 with q3;subst q3
   have:e'=en:=by
    have h1:es.toList[j]? =some e':=by simpa using q1
    rw[he]at h1;injection h1 with h1;exact h1.symm
   subst this
   exact⟨_,rfl,q5⟩
 obtain⟨val,rV,lk⟩:=key
 have gF:(getObj B.b).run P w=.ok (.map es clock) w:=MapKept.run_getObj_map hb
 have hz:(zeroValue e).run P w=.ok zv w:=by simp[zeroValue,typeInfo,hi,uS]
 refine⟨rfl,if ok then .tuple #[val,.bool fi.isSome]else val,?_,?_⟩
 ·simp only[execOp,ho,hu,Instr.lookup,Sem.run_bind,run_underlying ht,Result.andThen_ok,gF,Sem.run_pure,Jv,hf]
  rcases hF with⟨rfl,rfl⟩|⟨j,en,rfl,he,rfl⟩
  ·simp only[Prod.mk.injEq]at rV
   simp[hz,rV.1]
  ·simp only[Prod.mk.injEq]at rV
   simp[rV.1]
 ·cases ok with
  |false=>exact lk
  |true=>
   refine .gx _ _ (fun j=>if j=0 then val else .bool fi.isSome) rfl (fun j hj=>?_) (fun j b hj=>?_)
   ·have:j=0∨j=1:=by simp at hj;omega
    rcases this with rfl|rfl<;>rfl
   ·match j,hj with
    |0,hj=>simp at hj;subst hj;exact lk
    |1,hj=>simp at hj;subst hj;exact .eF _ _ (.bool _)
    |j+2,hj=>simp at hj
theorem Oj {t:TypeId} {x:Operand} {m:MK} {z:K} {x':O} {mr:Option Row} (S:fU P hs D ι g w) (E:bD P w D ι env a) (ho:o.op=.call {callee:=.builtin .len,args:= #[x],argTypes:= #[t]}) (hc:rJ P t=some (m,z)) (hx:cO P x=some x')
  (hv:bF (.len m) [cE env x'] g id=some (v,mr)):mr=none/\nJ P a o w D ι v:=by
 obtain⟨kt,e,i,zv,ht,hi,uS,Rh,hK⟩:=qu hc
 simp only[bF,Option.map_eq_some_iff,Prod.mk.injEq]at hv
 obtain⟨p,hp,rfl,rfl⟩:=hv
 obtain⟨B,hu,hg,hB,tG,es,clock,hb,e9,hlen,hM⟩:=zd S (cJ E hx) hp
 have gF:(getObj B.b).run P w=.ok (.map es clock) w:=MapKept.run_getObj_map hb
 refine⟨rfl,.int .i64 (es.size:Int),?_,by rw[e9];exact .eF _ _ (.int _ _)⟩
 simp only[execOp,ho,resolve,Sem.run_bind,Sem.run_pure,Result.andThen_ok,invoke,builtin,Array.map,hu]
 simp[Builtin.len_,run_underlying ht,goInt,hu,gF]
def MkM (P:Program) (a:Act) (o:Oper) (w:World) (id:Id) (v:AV) (r:Row):Prop:=
 ∃m,(execOp a.eval o).run P w=.ok (.value (.map (some w.heap.size))) (w.alloc (.map #[] 0))/\v=.map id m/\r=⟨true,m.nA,[]⟩
theorem Qg {t:TypeId} {m:MK} (ho:o.op=.makeMap t none):MkM P a o w id (.map id m) ⟨true,m.nA,[]⟩:=by
 refine⟨m,?_,rfl,rfl⟩
 simp[execOp,ho,Instr.makeMap,go_sem]
def MkC (P:Program) (a:Act) (o:Oper) (w:World) (id:Id) (v:AV) (r:Row):Prop:=
 ∃n,(execOp a.eval o).run P w=.ok (.value (.chan (some w.heap.size))) (w.alloc (.chan n #[] false 0 0 false))/\v=.qx id/\r=⟨true,pM+n,[]⟩
theorem NA {t e:TypeId} {x:Operand} {x':O} {dir:ChanDir} {i:TypeInfo} {n:Nat} (E:bD P w D ι env a) (ho:o.op=.makeChan t x) (ht:P.underlying t=some (.chan dir e)) (hi:P.info? e=some i) (hb:i.bytes<=32768) (hx:cO P x=some x') (hn:cX (cE env x')=some n):MkC P a o w id (.qx id) ⟨true,pM+n,[]⟩:=by
 refine⟨n,?_,rfl,rfl⟩
 have hr:=cJ E hx
 unfold cX at hn
 split at hn
 ·rename_i k m hm
  rw[hm]at hr
  split at hn
  ·rename_i hc
   simp only[Option.some.injEq]at hn
   subst hn
   have OE:((m.toNat:Nat):Int)=m:=by omega
   have dz:(i.bytes:Int)*(m.toNat:Nat)<=281474976710544:=by
    have h1:i.bytes*m.toNat<=32768*1048576:=Nat.mul_le_mul hb (by omega)
    have h2:((i.bytes*m.toNat:Nat):Int)<=281474976710544:=by omega
    rwa [Int.natCast_mul]at h2
   have h:=Conc.run_makeChan (P:=P) (w:=w) ht hi k m.toNat (by omega) dz
   rw[OE]at h
   simp only[execOp,ho,dp hr,Sem.run_bind,h,Result.andThen_ok,Sem.run_pure]
  ·cases hn
 ·cases hn
theorem yy {x:AV} {u:Value} {i:Id} {r:Row} (S:fU P hs D ι g w) (hr:cq P w D ι x u) (hx:x=.qx i) (hg:g i=some r):∃B c,u=.chan (some B.b)/\ι i=some B/\B.k=some (.chan c)/\r.sz=pM+c/\GV P w D ι B c r:=by
 subst hx
 obtain⟨B,c,rfl,hB,hk⟩:=KU hr
 obtain⟨B',dr,R,_⟩:=S.row i r hg
 rw[hB]at dr;injection dr with dr;subst dr
 exact⟨B,c,rfl,hB,hk,R.chan c hk⟩
theorem Od {t e:TypeId} {dir:ChanDir} {x:Operand} {x':O} (S:fU P hs D ι g w) (E:bD P w D ι env a) (ho:o.op=.call {callee:=.builtin .len,args:= #[x],argTypes:= #[t]}) (ht:P.underlying t=some (.chan dir e)) (hx:cO P x=some x') (hv:cV g (cE env x')=some v):nJ P a o w D ι v:=by
 have hr:=cJ E hx
 unfold cV at hv
 split at hv
 ·rename_i i he
  simp only[Option.map_eq_some_iff]at hv
  obtain⟨r,hg,rfl⟩:=hv
  obtain⟨B,c,hu,hB,hk,e9,buf,s,q,hb,Ju,_⟩:=yy S hr he hg
  have gF:(getObj B.b).run P w=.ok (.chan c buf false s q false) w:=by simp[getObj,Sem.run,hb]
  refine⟨.int .i64 (buf.size:Int),?_,by rw[Ju];exact .eF _ _ (.int _ _)⟩
  simp only[execOp,ho,resolve,Sem.run_bind,Sem.run_pure,Result.andThen_ok,invoke,builtin,Array.map,hu]
  simp[Builtin.len_,run_underlying ht,goInt,hu,gF]
 ·cases hv
end
end Go.Proofs.YtgoelphibofcmaaGreat.V

namespace Go.Proofs.YtgoelphibofcmaaGreat.V
open Go.RowKit
variable {P:Program} {w w':World} {D D':Nat->Prop} {ι ι':Names}
def JL (P:Program) (a:Act) (o:Oper) (w:World) (D:Nat->Prop) (ι:Names) (id:Id) (v:AV):Option Row->Prop
 |none=>nJ P a o w D ι v
 |some r=>Mk P a o w D ι id v r∨MkM P a o w id v r∨MkC P a o w id v r
section
variable {g:Rows} {hs:Nat} {env:Env} {a:Act} {o:Oper} {id:Id} {v:AV}
theorem k8 {x:Option AV} {mr:Option Row} (h:x.map (·,(none:Option Row))=some (v,mr)) (H:x=some v->nJ P a o w D ι v):JL P a o w D ι id v mr:=by
 cases x with
 |none=>simp at h
 |some y=>simp at h;obtain⟨rfl,rfl⟩:=h;exact H rfl
theorem Qn {neg:Bool} {t yt:TypeId} {x y:Operand} {vo:fX} {mr:Option Row} (ho:o.op=.binOp (if neg then .neq else .eql) t x y yt) (hc:rI P neg t x y=some vo) (hq:eU vo (cE env) g id=some (v,mr)) (E:bD P w D ι env a):JL P a o w D ι id v mr:=by
 unfold rI at hc
 split at hc
 ·split at hc
  ·rename_i e ht
   simp only[Option.map_eq_some_iff]at hc
   obtain⟨x',hx,rfl⟩:=hc
   simp only[eU,eB,Bool.false_eq_true,if_false,Option.map_eq_some_iff,Prod.mk.injEq]at hq
   obtain⟨b,hb,rfl,rfl⟩:=hq
   exact N9 E ho ht hx hb
  ·simp at hc
 ·split at hc
  ·rename_i ht
   simp only[Option.map_eq_some_iff]at hc
   obtain⟨x',hx,rfl⟩:=hc
   simp only[eU,eB,if_true,Option.map_eq_some_iff,Prod.mk.injEq]at hq
   obtain⟨b,hb,rfl,rfl⟩:=hq
   exact N8 E ho ht hx hb
  ·simp at hc
 ·split at hc
  ·rename_i ht
   simp only[Option.map_eq_some_iff]at hc
   obtain⟨x',hx,rfl⟩:=hc
   simp only[eU,Option.map_eq_some_iff,Prod.mk.injEq]at hq
   obtain⟨b,hb,rfl,rfl⟩:=hq
   exact QE E ho ht hx hb
  ·simp at hc
 ·split at hc
  ·rename_i s hs
   simp only[Option.bind_eq_bind,Option.bind_eq_some_iff,Option.pure_def,Option.some.injEq]at hc
   obtain⟨x',hx,y',hy,rfl⟩:=hc
   simp only[eU,Option.map_eq_some_iff,Prod.mk.injEq]at hq
   obtain⟨b,hb,rfl,rfl⟩:=hq
   have AQ:fa P t=some s:=by
    unfold RV at hs
    split at hs
    ·rename_i s' h;simp at hs;subst hs;exact h
    ·split at hs
     ·split at hs
      ·simp at hs
      ·simp at hs
     ·simp at hs
   exact QF E ho AQ hx hy hb
  ·rename_i ts hs
   simp only[Option.bind_eq_bind,Option.bind_eq_some_iff,Option.pure_def,Option.some.injEq]at hc
   obtain⟨x',hx,y',hy,rfl⟩:=hc
   simp only[eU]at hq
   split at hq
   ·rename_i xs ys h1 h2
    simp only[Option.map_eq_some_iff,Prod.mk.injEq]at hq
    obtain⟨b,hb,rfl,rfl⟩:=hq
    unfold RV at hs
    split at hs
    ·simp at hs
    ·split at hs
     ·rename_i fs qD
      split at hs
      ·rename_i hg
       simp only[Option.map_eq_some_iff,RJ.ag.injEq]at hs
       obtain⟨L3,wT,rfl⟩:=hs
       simp only[Bool.and_eq_true,Bool.not_eq_true']at hg
       exact QD E ho qD hg.1 hg.2 wT hx hy h1 h2 hb
      ·simp at hs
     ·simp at hs
   ·simp at hq
  ·simp at hc
theorem NJ {c:Call} {vo:fX} {mr:Option Row} (ho:o.op=.call c) (hc:mT P c=some vo) (hq:eU vo (cE env) g id=some (v,mr)) (S:fU P hs D ι g w) (E:bD P w D ι env a):JL P a o w D ι id v mr:=by
 unfold mT at hc
 split at hc
 ·rename_i j9
  split at hc
  ·rename_i x t h1 h2
   have hce:c={callee:=.builtin .len,args:= #[x],argTypes:= #[t]}:=by
    obtain⟨a,b,c⟩:=c
    simp only at h1 h2 j9
    subst j9
    congr
    ·exact Array.ext' h1
    ·exact Array.ext' h2
   rw[hce]at ho
   split at hc
   ·rename_i e ht
    simp only[Option.map_eq_some_iff]at hc
    obtain⟨x',hx,rfl⟩:=hc
    simp only[eU,Option.map_eq_some_iff,Prod.mk.injEq]at hq
    obtain⟨n,hn,rfl,rfl⟩:=hq
    exact QG E ho ht hx hn
   ·rename_i ht
    simp only[Option.map_eq_some_iff]at hc
    obtain⟨x',hx,rfl⟩:=hc
    exact k8 hq fun h=>Oe E ho ht hx h
   ·split at hc
    ·rename_i m z x' hm hx
     simp only[Option.some.injEq]at hc
     subst hc
     obtain⟨rfl,h⟩:=Oj (id:=id) S E ho hm hx hq
     exact h
    ·cases hc
   ·rename_i ht
    simp only[Option.map_eq_some_iff]at hc
    obtain⟨x',hx,rfl⟩:=hc
    exact k8 hq fun h=>Od S E ho ht hx h
   ·simp at hc
  ·simp at hc
 ·split at hc
  ·split at hc
   ·split at hc
    ·split at hc
     ·simp only[Option.bind_eq_bind,Option.bind_eq_some_iff,Option.pure_def,Option.some.injEq]at hc
      obtain⟨x',hx,y',hy,rfl⟩:=hc
      simp[eU]at hq
     ·simp at hc
    ·simp at hc
   ·simp at hc
  ·simp at hc
 ·split at hc
  ·split at hc
   ·split at hc
    ·simp only[Option.map_eq_some_iff]at hc
     obtain⟨x',hx,rfl⟩:=hc
     simp[eU]at hq
    ·simp at hc
   ·simp at hc
  ·simp at hc
 ·split at hc
  ·simp only[Option.map_eq_some_iff]at hc
   obtain⟨x',hx,rfl⟩:=hc
   simp[eU]at hq
  ·simp at hc
 ·simp only[Option.map_eq_some_iff]at hc
  obtain⟨x',hx,rfl⟩:=hc
  simp[eU]at hq
 ·split at hc
  ·split at hc
   ·simp only[Option.some.injEq]at hc
    subst hc
    simp[eU]at hq
   ·cases hc
  ·cases hc
 ·split at hc
  ·split at hc
   ·split at hc
    ·simp only[Option.bind_eq_bind,Option.bind_eq_some_iff,Option.pure_def,Option.some.injEq]at hc
     obtain⟨x',hx,y',hy,rfl⟩:=hc
     simp[eU]at hq
    ·simp at hc
   ·simp at hc
  ·simp at hc
 ·simp at hc
theorem xZ {vo:fX} {mr:Option Row} (hc:qh P o.op=some vo) (hq:eU vo (cE env) g id=some (v,mr)) (S:fU P hs D ι g w) (E:bD P w D ι env a):JL P a o w D ι id v mr:=by
 unfold qh at hc
 split at hc
 ·rename_i ho
  simp only[Option.map_eq_some_iff]at hc
  obtain⟨x',hx,rfl⟩:=hc
  simp[eU]at hq;obtain⟨rfl,rfl⟩:=hq
  exact L5 E (.inl ho) hx
 ·rename_i ho
  simp only[Option.map_eq_some_iff]at hc
  obtain⟨x',hx,rfl⟩:=hc
  simp[eU]at hq;obtain⟨rfl,rfl⟩:=hq
  exact L5 E (.inr ho) hx
 ·rename_i ho
  simp only[Option.bind_eq_bind,Option.bind_eq_some_iff,Option.pure_def,Option.some.injEq]at hc
  obtain⟨c',h1,x',h2,y',h3,rfl⟩:=hc
  exact k8 hq fun h=>Ol E ho h1 h2 h3 h
 ·rename_i ho
  simp only[Option.map_eq_some_iff]at hc
  obtain⟨z,hz,rfl⟩:=hc
  simp only[eU,Option.some.injEq,Prod.mk.injEq]at hq
  obtain⟨rfl,rfl⟩:=hq
  exact .inl (Qh ho hz)
 ·rename_i ho
  simp only[Option.map_eq_some_iff]at hc
  obtain⟨x',hx,rfl⟩:=hc
  simp only[eU,Option.map_eq_some_iff,Prod.mk.injEq]at hq
  obtain⟨cs,dn,rfl,rfl⟩:=hq
  exact .inl (Qf E ho hx dn)
 ·rename_i ho
  simp only[Option.bind_eq_bind,Option.bind_eq_some_iff,Option.pure_def,Option.some.injEq]at hc
  obtain⟨ag,h1,n,h2,x',h3,rfl⟩:=hc
  exact k8 hq fun h=>Of S E ho h1 h2 h3 h
 ·rename_i ho
  simp only[Option.bind_eq_bind,Option.bind_eq_some_iff,Option.pure_def,Option.some.injEq]at hc
  obtain⟨n,h2,x',h3,y',h4,rfl⟩:=hc
  simp[eU]at hq
 ·rename_i ho
  simp only[Option.map_eq_some_iff]at hc
  obtain⟨x',hx,rfl⟩:=hc
  exact k8 hq fun h=>QC E ho hx h
 ·rename_i op t x y yt ho
  unfold uj at hc
  split at hc
  ·exact Qn (neg:=false) ho hc hq E
  ·exact Qn (neg:=true) ho hc hq E
  ·simp only[Option.bind_eq_bind,Option.bind_eq_some_iff,Option.pure_def,Option.some.injEq]at hc
   obtain⟨x',h3,y',h4,rfl⟩:=hc
   exact k8 hq fun h=>QJ (left:=true) E ho h3 h4 h
  ·simp only[Option.bind_eq_bind,Option.bind_eq_some_iff,Option.pure_def,Option.some.injEq]at hc
   obtain⟨x',h3,y',h4,rfl⟩:=hc
   exact k8 hq fun h=>QJ (left:=false) E ho h3 h4 h
  ·rename_i n1 n2 n3 n4
   split at hc
   ·simp only[Option.bind_eq_bind,Option.bind_eq_some_iff,Option.pure_def,Option.some.injEq]at hc
    obtain⟨x',h3,y',h4,rfl⟩:=hc
    exact k8 hq fun h=>QB E ho n1 n2 h3 h4 h
   ·simp only[Option.bind_eq_bind,Option.bind_eq_some_iff,Option.pure_def,Option.some.injEq]at hc
    obtain⟨x',h3,y',h4,rfl⟩:=hc
    exact k8 hq fun h=>N6 E ho n1 n2 h3 h4 h
   ·simp at hc
 ·rename_i ho
  simp only[Option.map_eq_some_iff]at hc
  obtain⟨x',hx,rfl⟩:=hc
  exact k8 hq fun h=>QI E ho hx h
 ·rename_i ho
  simp only[Option.map_eq_some_iff]at hc
  obtain⟨x',hx,rfl⟩:=hc
  exact k8 hq fun h=>QH E ho hx h
 ·rename_i ho
  split at hc
  ·rename_i q k h1 h2
   simp only[Option.map_eq_some_iff]at hc
   obtain⟨x',hx,rfl⟩:=hc
   exact k8 hq fun h=>N7 E ho h1 h2 hx h
  ·rename_i h1 h2
   simp only[Option.map_eq_some_iff]at hc
   obtain⟨x',hx,rfl⟩:=hc
   exact k8 hq fun h=>by
    have hr:=cJ E hx
    unfold bV at h
    split at h
    ·rename_i s hb
     simp at h;subst h
     rw[hb]at hr
     exact⟨.string s,by simp only[execOp,ho,fq hr,convert,Sem.run_bind,run_underlying h1,run_underlying h2,Result.andThen_ok,Sem.run_pure],.eF _ _ (.str _)⟩
    ·simp at h
  ·simp at hc
 ·rename_i ho
  split at hc
  ·rename_i e ht
   simp only[Option.bind_eq_bind,Option.bind_eq_some_iff,Option.pure_def,Option.some.injEq]at hc
   obtain⟨n,h1,x',h2,lo,h3,hi,h4,rfl⟩:=hc
   exact k8 hq fun h=>Lh S E ho ht h1 h2 h3 h4 h
  ·rename_i ht
   simp only[Option.bind_eq_bind,Option.bind_eq_some_iff,Option.pure_def,Option.some.injEq]at hc
   obtain⟨x',h2,lo,h3,hi,h4,rfl⟩:=hc
   exact k8 hq fun h=>Jo E ho ht h2 h3 h4 h
  ·simp at hc
 ·rename_i ho
  split at hc
  ·rename_i fs qD
   split at hc
   ·rename_i f hf
    split at hc
    ·rename_i m hm
     simp only[Option.map_eq_some_iff]at hc
     obtain⟨x',hx,rfl⟩:=hc
     exact k8 hq fun h=>Le E ho qD hf hm hx h
    ·simp at hc
   ·simp at hc
  ·simp at hc
 ·rename_i ho
  split at hc
  ·rename_i fs qD
   split at hc
   ·rename_i f hf
    simp only[Option.bind_eq_bind,Option.bind_eq_some_iff,Option.pure_def,Option.some.injEq]at hc
    obtain⟨ag,h1,n,h2,x',h3,rfl⟩:=hc
    exact k8 hq fun h=>Lf E ho qD hf h1 h2 h3 h
   ·simp at hc
  ·simp at hc
 ·rename_i ho
  split at hc
  ·rename_i e ht
   split at hc
   ·rename_i m hm
    simp only[Option.bind_eq_bind,Option.bind_eq_some_iff,Option.pure_def,Option.some.injEq]at hc
    obtain⟨x',h1,i',h2,rfl⟩:=hc
    exact k8 hq fun h=>Lg S E ho ht hm h1 h2 h
   ·simp at hc
  ·rename_i len e ht
   split at hc
   ·rename_i m hm
    simp only[Option.bind_eq_bind,Option.bind_eq_some_iff,Option.pure_def,Option.some.injEq]at hc
    obtain⟨x',h1,i',h2,rfl⟩:=hc
    exact k8 hq fun h=>Oa E ho ht hm h1 h2 h
   ·simp at hc
  ·simp at hc
 ·rename_i ho
  split at hc
  ·rename_i ht
   simp only[Option.bind_eq_bind,Option.bind_eq_some_iff,Option.pure_def,Option.some.injEq]at hc
   obtain⟨x',h1,i',h2,rfl⟩:=hc
   exact k8 hq fun h=>Oc E ho ht h1 h2 h
  ·rename_i len e ht
   simp only[Option.bind_eq_bind,Option.bind_eq_some_iff,Option.pure_def,Option.some.injEq]at hc
   obtain⟨ag,h0,n,h1,x',h2,i',h3,rfl⟩:=hc
   exact k8 hq fun h=>Ob E ho ht h0 h1 h2 h3 h
  ·simp at hc
 ·rename_i ho
  simp only[Option.map_eq_some_iff]at hc
  obtain⟨x',hx,rfl⟩:=hc
  exact k8 hq fun h=>Gy E ho hx h
 ·rename_i ho
  split at hc
  ·rename_i fs qD
   split at hc
   ·rename_i z l hz hl
    split at hc
    ·rename_i dF
     simp only[Option.map_eq_some_iff]at hc
     obtain⟨q,Ki,rfl⟩:=hc
     simp only[eU,Option.map_eq_some_iff,Prod.mk.injEq]at hq
     obtain⟨cs,dn,rfl,rfl⟩:=hq
     exact Ld E ho qD hz hl (fun f hf=>by
      rw[Array.all_eq_true_iff_forall_mem]at dF
      exact dF f (Array.mem_toList_iff.1 hf)) Ki dn
    ·simp at hc
   ·simp at hc
  ·rename_i len e ht
   split at hc
   ·rename_i z l n hz hl hn
    simp only[Option.some.injEq]at hc
    subst hc
    simp only[eU,Option.map_eq_some_iff,Prod.mk.injEq]at hq
    obtain⟨cs,dn,rfl,rfl⟩:=hq
    exact Jn E ho ht hz hl hn dn
   ·simp at hc
  ·simp at hc
 ·rename_i ho
  split at hc
  ·rename_i e ht
   split at hc
   ·rename_i sz z l h1 h2 h3
    split at hc
    ·rename_i hh
     simp only[Option.some.injEq]at hc
     subst hc
     simp only[eU,Option.map_eq_some_iff,Prod.mk.injEq]at hq
     obtain⟨rs,xG,rfl,rfl⟩:=hq
     exact .inl (Il E ho ht h1 h2 h3 hh.1 hh.2 (by rw[List.map_map]at xG;exact xG))
    ·simp at hc
   ·simp at hc
  ·simp at hc
 ·rename_i ho
  split at hc
  ·rename_i hh
   simp only[Option.map_eq_some_iff]at hc
   obtain⟨l,hl,rfl⟩:=hc
   simp[eU]at hq;obtain⟨rfl,rfl⟩:=hq
   exact Oh E ho hh.1 hh.2 hl
  ·split at hc
   ·rename_i hh
    simp only[Option.map_eq_some_iff]at hc
    obtain⟨l,hl,rfl⟩:=hc
    simp[eU]at hq;obtain⟨rfl,rfl⟩:=hq
    exact Oi E ho hh.1 hh.2 hl
   ·simp at hc
 ·rename_i ho
  split at hc
  ·rename_i e ht
   split at hc
   ·rename_i m z i h1 h2 h3
    split at hc
    ·rename_i hb
     simp only[Option.bind_eq_bind,Option.bind_eq_some_iff,Option.pure_def,Option.some.injEq]at hc
     obtain⟨l',h4,c',h5,rfl⟩:=hc
     simp only[eU,Option.map_eq_some_iff,Prod.mk.injEq]at hq
     obtain⟨⟨n,r⟩,hr,rfl,rfl⟩:=hq
     exact .inl (FX E ho ht h1 h2 h3 hb h4 h5 hr)
    ·simp at hc
   ·simp at hc
  ·simp at hc
 ·rename_i ho
  exact NJ ho hc hq S E
 ·rename_i ho
  split at hc
  ·rename_i dir e ht
   split at hc
   ·rename_i i hi
    split at hc
    ·rename_i hb
     simp only[Option.map_eq_some_iff]at hc
     obtain⟨x',hx,rfl⟩:=hc
     simp only[eU,Option.map_eq_some_iff,Prod.mk.injEq]at hq
     obtain⟨n,hn,rfl,rfl⟩:=hq
     exact .inr (.inr (NA E ho ht hi hb hx hn))
    ·cases hc
   ·cases hc
  ·cases hc
 ·simp only[Option.bind_eq_bind,Option.bind_eq_some_iff,Option.pure_def,Option.some.injEq]at hc
  obtain⟨x',_,y',_,rfl⟩:=hc
  simp[eU]at hq
 ·split at hc
  ·split at hc
   ·simp only[Option.map_eq_some_iff]at hc
    obtain⟨x',_,rfl⟩:=hc
    simp[eU]at hq
   ·cases hc
  ·cases hc
 ·rename_i ho
  split at hc
  ·rename_i m z hm
   simp only[Option.some.injEq]at hc
   subst hc
   simp only[eU,List.map_nil,bF,Option.some.injEq,Prod.mk.injEq]at hq
   obtain⟨rfl,rfl⟩:=hq
   exact .inr (.inl (Qg ho))
  ·cases hc
 ·rename_i ho
  split at hc
  ·rename_i m z x' k' hm hx hk
   simp only[Option.some.injEq]at hc
   subst hc
   obtain⟨rfl,h⟩:=Og (id:=id) S E ho hm hx hk hq
   exact h
  ·cases hc
 ·split at hc
  ·simp only[Option.some.injEq]at hc
   subst hc
   simp[eU]at hq
  ·cases hc
 ·split at hc
  ·simp only[Option.some.injEq]at hc
   subst hc
   simp[eU]at hq
  ·cases hc
 ·simp only[Option.some.injEq]at hc
  subst hc
  simp[eU]at hq
 ·simp only[Option.some.injEq]at hc
  subst hc
  simp[eU]at hq
 ·simp at hc
end
end Go.Proofs.YtgoelphibofcmaaGreat.V

namespace Go.Proofs.YtgoelphibofcmaaGreat.V
open Go.RowKit
variable {P:Program} {w w':World} {D D':Nat->Prop} {ι ι':Names}
def ke (ι:Names) (id:Id) (B:rz):Names:=fun i=>if i=id then some B else ι i
theorem dH (ι:Names) (id:Id) (B:rz):ke ι id B id=some B:=if_pos rfl
theorem eY {ι:Names} {id:Id} {B:rz} (h:ι id=none):∀i B',ι i=some B'->ke ι id B i=some B':=fun i B' hi=>by
 have:i≠id:=by rintro rfl;rw[h]at hi;cases hi
 rw[ke,if_neg this];exact hi
theorem fQ {ι:Names} {id i:Id} {B:rz} (h:i≠id):ke ι id B i=ι i:=if_neg h
section
variable {g:Rows} {hs:Nat} {env:Env} {a:Act} {o:Oper} {id:Id} {v:AV}
theorem lf.frame {B:rz} {r:Row} (h:lf P w D ι B r) (hb:w'.heap[B.b]? =w.heap[B.b]?) (hr:∀a v,cq P w D ι a v->cq P w' D' ι' a v):lf P w' D' ι' B r:=
 ⟨h.sz,by obtain⟨c,T,h1,h2⟩:=h.wH;exact⟨c,T,hb.trans h1,h2⟩,h.fits,h.len,h.flat,fun i j cs a hi hj=>by
  obtain⟨v,h1,h2⟩:=h.at_ i j cs a hi hj
  exact⟨v,(World.cell?_of_block (a:=⟨B.b,i*r.sz+j,none⟩) hb).trans h1,hr _ _ h2⟩⟩
theorem gq.frame {B:rz} {r:Row} (h:gq P w D ι B r) (hb:w'.heap[B.b]? =w.heap[B.b]?) (hr:∀a v,cq P w D ι a v->cq P w' D' ι' a v):gq P w' D' ι' B r:=
 ⟨h.sz,h.flat,fun hk=>(h.row hk).frame hb hr,fun m hm=>by
  obtain⟨h1,es,c,h2,h3,h5,h4⟩:=h.map m hm
  refine⟨h1,es,c,hb.trans h2,h3,h5,fun i cs hi=>?_⟩
  obtain⟨e,kv,vv,q1,q2,q3,q4,q5⟩:=h4 i cs hi
  exact⟨e,kv,vv,q1,q2,q3,hr _ _ q4,hr _ _ q5⟩,fun c hc=>by
  obtain⟨h1,buf,s,q,h2,h3,h4⟩:=h.chan c hc
  refine⟨h1,buf,s,q,hb.trans h2,h3,fun i cs hi=>?_⟩
  obtain⟨a,u,q1,q2,q3⟩:=h4 i cs hi
  exact⟨a,u,q1,q2,hr _ _ q3⟩⟩
theorem fU.kill (S:fU P hs D ι g w) (i:Id):fU P hs D ι (bY g i) w:=by
 refine⟨S.lo,S.dead,fun id r h=>?_,fun id jJ r r' B B' h h' hw hB dr hb=>?_⟩
 ·unfold bY at h;split at h
  ·cases h
  ·exact S.row id r h
 ·unfold bY at h h'
  split at h
  ·cases h
  ·split at h'
   ·cases h'
   ·exact S.inj id jJ r r' B B' h h' hw hB dr hb
theorem fU.sub {g':Rows} (S:fU P hs D ι g w) (h:∀id r,g' id=some r->g id=some r):fU P hs D ι g' w:=
 ⟨S.lo,S.dead,fun id r hr=>S.row id r (h id r hr),fun id jJ r r' B B' h1 h2=>S.inj id jJ r r' B B' (h _ _ h1) (h _ _ h2)⟩
theorem zJ {hid:List Nat} {n:Nat} {g:Rows}:∀id r,gy hid n g id=some r->g id=some r:=fun id r h=>by
 cases hid with
 |nil=>exact h
 |cons a l=>
  have e:gy (a::l) n g id=if (a::l).contains id.site=true/\id.aZ=n then none else g id:=rfl
  rw[e]at h
  by_cases hc:(a::l).contains id.site=true/\id.aZ=n
  ·rw[if_pos hc]at h;cases h
  ·rw[if_neg hc]at h;exact h
theorem fU.stay (S:fU P hs D ι g w) (hb:∀b,b<w.heap.size->w'.heap[b]? =w.heap[b]?) (hz:w.heap.size<=w'.heap.size) (hD:∀b,D b->D' b) (hD':∀b,D' b->b<w'.heap.size) (j0:∀b,D' b->D b∨w.heap.size<=b) (hι:∀id B,ι id=some B->ι' id=some B):fU P hs D' ι' g w':=by
 have hr:∀a v,cq P w D ι a v->cq P w' D' ι' a v:=fun a v h=>h.frame (fun b hd=>hb b (S.dead b hd)) hD hι
 have lt:∀{id r B},g id=some r->ι id=some B->B.b<w.heap.size:=fun {id r B} h hB=>by
  obtain⟨B',dr,R,_⟩:=S.row id r h
  rw[hB]at dr;injection dr with dr;subst dr
  exact R.lt
 refine⟨Nat.le_trans S.lo hz,hD',fun id r h=>?_,fun id jJ r r' B B' h h' hw hB dr he=>?_⟩
 ·obtain⟨B,hB,R,h1,h2⟩:=S.row id r h
  exact⟨B,hι _ _ hB,R.frame (hb _ (lt h hB)) hr,h1,fun hw hd=>by
   rcases j0 _ hd with hd|hd
   ·exact h2 hw hd
   ·have:=lt h hB;omega⟩
 ·obtain⟨C,hC,_⟩:=S.row id r h
  obtain⟨C',th,_⟩:=S.row jJ r' h'
  have e1:=hι _ _ hC
  have e2:=hι _ _ th
  rw[hB]at e1;injection e1 with e1;subst e1
  rw[dr]at e2;injection e2 with e2;subst e2
  exact S.inj id jJ r r' _ _ h h' hw hC th he
theorem Step.stay (S:fU P hs D ι g w) (hb:∀b,b<w.heap.size->w'.heap[b]? =w.heap[b]?) (hz:w.heap.size<=w'.heap.size) (e1:w'.os=w.os) (e2:w'.tape=w.tape) (e3:w'.output=w.output) (hD:∀b,D b->D' b) (j0:∀b,D' b->D b∨w.heap.size<=b) (hι:∀id B,ι id=some B->ι' id=some B):Step hs D ι w D' ι' w':=
 ⟨⟨e1,e2,e3,hz,fun k hk=>hb k (Nat.lt_of_lt_of_le hk S.lo)⟩,fun b hd=>hb b (S.dead b hd),hD,hι,fun b h=>(j0 b h).imp_right (Nat.le_trans S.lo)⟩
theorem fU.alloc (S:fU P hs D ι g w) {cells:Array Value} {T:TypeId} {r:Row} (hh:w'.heap=w.heap.push (.cells cells T (0,0))) (hn:ι id=none) (hw:r.w=true) (h1:r.rows.length*r.sz<=cells.size) (h2:∀cs∈r.rows,cs.length=r.sz) (h3:∀cs∈r.rows,∀a∈cs,a.cell=true)
  (h4:∀i j cs a,r.rows[i]? =some cs->cs[j]? =some a->∃x,cells[i*r.sz+j]? =some x/\cq P w D ι a x):fU P hs D (ke ι id ⟨w.heap.size,r.sz,cells.size,none⟩) (bB g id r) w':=by
 have hb:∀b,b<w.heap.size->w'.heap[b]? =w.heap[b]? :=fun b dz=>by rw[hh,Array.getElem?_push,if_neg (by omega)]
 have hz:w.heap.size<=w'.heap.size:=by rw[hh];simp
 have S':=S.stay (D':=D) (ι':=ke ι id ⟨w.heap.size,r.sz,cells.size,none⟩) hb hz (fun _ h=>h) (fun b hd=>Nat.lt_of_lt_of_le (S.dead b hd) hz) (fun _ h=>.inl h) (eY hn)
 have hr:∀a v,cq P w D ι a v->cq P w' D (ke ι id ⟨w.heap.size,r.sz,cells.size,none⟩) a v:=fun a v h=>h.frame (fun b hd=>hb b (S.dead b hd)) (fun _ h=>h) (eY hn)
 have j0:w'.heap[w.heap.size]? =some (.cells cells T (0,0)):=by rw[hh];simp
 have gone:g id=none:=by
  cases hg:g id with
  |none=>rfl
  |some q=>
   obtain⟨B,hB,_⟩:=S.row id q hg
   rw[hn]at hB;cases hB
 have lt:∀{i q B},g i=some q->ι i=some B->B.b<w.heap.size:=fun {i q B} h hB=>by
  obtain⟨B',dr,R,_⟩:=S.row i q h
  rw[hB]at dr;injection dr with dr;subst dr
  exact R.lt
 refine⟨S'.lo,S'.dead,fun i q h=>?_,fun i i' q q' B B' h h' HY hB dr he=>?_⟩
 ·unfold bB at h
  split at h
  ·rename_i e
   subst e
   injection h with h;subst h
   refine⟨_,dH _ _ _,lf.obj ⟨rfl,⟨cells,T,j0,rfl⟩,h1,h2,h3,fun k j cs a hk hj=>?_⟩ rfl,fun _=>S.lo,fun _ hd=>?_⟩
   ·obtain⟨x,hx,hrx⟩:=h4 k j cs a hk hj
    exact⟨x,by simp[World.cell?,j0,hx],hr _ _ hrx⟩
   ·have:=S.dead _ hd;simp at this
  ·exact S'.row i q h
 ·unfold bB at h h'
  split at h
  ·rename_i e
   split at h'
   ·rename_i e';exact e.trans e'.symm
   ·exfalso
    rename_i e'
    subst e
    rw[dH]at hB;injection hB with hB;subst hB
    rw[fQ e']at dr
    have:=lt h' dr
    simp at he;omega
  ·rename_i e
   split at h'
   ·exfalso
    rename_i e'
    subst e'
    rw[dH]at dr;injection dr with dr;subst dr
    rw[fQ e]at hB
    have:=lt h hB
    simp at he;omega
   ·exact S'.inj i i' q q' B B' h h' HY hB dr he
theorem fU.put (S:fU P hs D ι g w) {r r':Row} {B:rz} {cur cur':Array Value} {T:TypeId} (hid:g id=some r) (hw:r.w=true) (hB:ι id=some B) (hblk:w.heap[B.b]? =some (.cells cur T (0,0))) (e9:cur'.size=cur.size)
  (h0:r'.w=true) (h1:r'.sz=r.sz) (h2:r'.rows.length*r'.sz<=B.C) (h3:∀cs∈r'.rows,cs.length=r'.sz) (h4:∀cs∈r'.rows,∀a∈cs,a.cell=true)
  (h5:∀i j cs a,r'.rows[i]? =some cs->cs[j]? =some a->∃v,cur'[i*r.sz+j]? =some v/\cq P w D ι a v):fU P hs D ι (bB g id r') (w.setRow B.b cur')/\Step hs D ι w D ι (w.setRow B.b cur'):=by
 obtain⟨B0,AF,RO,jA,oI⟩:=S.row id r hid
 rw[hB]at AF;injection AF with AF;subst AF
 have wz:=RO.KI hblk
 have R:=RO.row wz
 have hd:∀b,D b->(w.setRow B.b cur').heap[b]? =w.heap[b]? :=fun b hb=>setRow_other w B.b b cur' (by rintro rfl;exact oI hw hb)
 have hr:∀a v,cq P w D ι a v->cq P (w.setRow B.b cur') D ι a v:=fun a v h=>h.frame hd (fun _ h=>h) (fun _ _ h=>h)
 have hC:cur.size=B.C:=by
  obtain⟨c,T',h1,h2⟩:=R.wH
  rw[hblk]at h1;injection h1 with h1;injection h1 with h1 MF;subst h1;exact h2
 refine⟨⟨by simpa using S.lo,fun b hb=>by simpa using S.dead b hb,fun i q h=>?_,fun i i' q q' C C' h h' HY hC th he=>?_⟩,⟨⟨by simp,by simp,by simp,by simp,fun k hk=>setRow_other w B.b k cur' (by have:=jA hw;omega)⟩,hd,fun _ h=>h,fun _ _ h=>h,fun _ h=>.inl h⟩⟩
 ·unfold bB at h
  split at h
  ·rename_i e
   subst e
   injection h with h;subst h
   refine⟨B,hB,lf.obj ⟨by rw[h1];exact R.sz,⟨cur',T,setRow_heap w B.b cur cur' T _ hblk,by rw[e9];exact hC⟩,h2,h3,h4,fun k j cs a hk hj=>?_⟩ wz,fun _=>jA hw,fun _=>oI hw⟩
   obtain⟨v,hv,lk⟩:=h5 k j cs a hk hj
   exact⟨v,by rw[cell_setRow_same w B.b _ cur cur' T _ hblk,h1];exact hv,hr _ _ lk⟩
  ·rename_i e
   obtain⟨C,hC,RC,k1,k2⟩:=S.row i q h
   refine⟨C,hC,RC.frame (setRow_other w B.b C.b cur' (fun Ly=>e ?_)) hr,k1,k2⟩
   exact(S.inj id i r q B C hid h hw hB hC Ly.symm).symm
 ·unfold bB at h h'
  have get:∀j p,(if j=id then some r' else g j)=some p->∃p0,g j=some p0/\(p.w=true->p0.w=true):=fun j p hp=>by
   split at hp
   ·rename_i e;subst e;injection hp with hp;subst hp;exact⟨r,hid,fun _=>hw⟩
   ·exact⟨p,hp,fun h=>h⟩
  obtain⟨p,hp,OJ⟩:=get _ _ h
  obtain⟨p',Ng,_⟩:=get _ _ h'
  exact S.inj i i' p p' C C' hp Ng (OJ HY) hC th he
theorem fU.rename (S:fU P hs D ι g w) {i:Id} {r:Row} {B:rz} (hi:g i=some r) (hw:r.w=true) (hB:ι i=some B) (hn:ι id=none):fU P hs D (ke ι id B) (bB (bY g i) id r) w:=by
 have S':=S.stay (w':=w) (D':=D) (ι':=ke ι id B) (fun _ _=>rfl) (Nat.le_refl _) (fun _ h=>h) S.dead (fun _ h=>.inl h) (eY hn)
 have fZ:i≠id:=by rintro rfl;rw[hn]at hB;cases hB
 obtain⟨B1,zW,R,k1,k2⟩:=S'.row i r hi
 rw[fQ fZ,hB]at zW;injection zW with zW;subst zW
 have get:∀j p,bB (bY g i) id r j=some p->(j=id/\p=r)∨(j≠id/\j≠i/\g j=some p):=fun j p hp=>by
  unfold bB bY at hp
  split at hp
  ·rename_i e;injection hp with hp;exact .inl ⟨e,hp.symm⟩
  ·rename_i e
   split at hp
   ·cases hp
   ·rename_i e';exact .inr ⟨e,e',hp⟩
 refine⟨S.lo,S.dead,fun j p h=>?_,fun j j' p p' C C' h h' OJ hC th he=>?_⟩
 ·rcases get j p h with⟨rfl,rfl⟩|⟨_,_,hp⟩
  ·exact⟨B,dH _ _ _,R,k1,k2⟩
  ·exact S'.row j p hp
 ·rcases get j p h with⟨rfl,rfl⟩|⟨q1,q2,hp⟩
  ·rcases get j' p' h' with⟨rfl,rfl⟩|⟨q1',q2',Ng⟩
   ·rfl
   ·exfalso
    rw[dH]at hC;injection hC with hC;subst hC
    rw[fQ q1']at th
    exact q2' (S.inj i j' p p' B C' hi Ng hw hB th he).symm
  ·rcases get j' p' h' with⟨rfl,rfl⟩|⟨q1',q2',Ng⟩
   ·exfalso
    rw[dH]at th;injection th with th;subst th
    rw[fQ q1]at hC
    exact q2 (S.inj j i p p' C B hp hi OJ hC hB he)
   ·rw[fQ q1]at hC
    rw[fQ q1']at th
    exact S.inj j j' p p' C C' hp Ng OJ hC th he
def B4 (P:Program) (hs:Nat) (a:Act) (o:Oper) (w:World) (D:Nat->Prop) (ι:Names) (id:Id) (v:AV) (g':Rows):Prop:=
 ∃u w' ι',((execOp a.eval o).run P w=.ok (.value u) w'∨(execOp a.eval o).run P w=.ok .skip w'/\u=undef)/\Step hs D ι w D ι' w'/\fU P hs D ι' g' w'/\cq P w' D ι' v u/\∀i,i≠id->ι' i=ι i
theorem Br {xs:List AV} {vs:Array Value} (h:fh P w D ι xs vs) (hf:∀a∈xs,a.cell=true):∀v∈vs.toList,v.oneCell'=true:=by
 intro v hv
 obtain⟨j,hj,rfl⟩:=List.getElem_of_mem hv
 have Jz:j<xs.length:=by rw[<-h.1];simpa using hj
 obtain⟨u,hu,hr⟩:=h.2 j _ (List.getElem?_eq_getElem Jz)
 have hc:=hr.Ap (hf _ (List.getElem_mem Jz))
 have:vs.toList[j]=u:=by
  have:vs.toList[j]? =some u:=by simpa using hu
  rw[List.getElem?_eq_getElem hj]at this;injection this
 rw[this]
 cases u<;>simp_all [Value.oneCell']
theorem jD {i j n m:Nat} (h:i<n) (hj:j<m):i*m+j<n*m:=by
 have:(i+1)*m<=n*m:=Nat.mul_le_mul_right _ h
 rw[Nat.add_mul,Nat.one_mul]at this;omega
theorem lf.cur {B:rz} {r:Row} (R:lf P w D ι B r):∃cur T,w.heap[B.b]? =some (.cells cur T (0,0))/\cur.size=B.C/\∀i j cs a,r.rows[i]? =some cs->cs[j]? =some a->∃v,cur[i*r.sz+j]? =some v/\cq P w D ι a v:=by
 obtain⟨cur,T,h1,h2⟩:=R.wH
 refine⟨cur,T,h1,h2,fun i j cs a hi hj=>?_⟩
 obtain⟨v,hv,hr⟩:=R.at_ i j cs a hi hj
 exact⟨v,by simpa[World.cell?,h1]using hv,hr⟩
theorem JY {t:TypeId} {n:Nat} {x y:Operand} {x' y':O} {g':Rows} (S:fU P hs D ι g w) (E:bD P w D ι env a) (ho:o.op=.store t x y) (hn:dI P t=some n) (hx:cO P x=some x') (hy:cO P y=some y')
  (hv:bR g n (cE env y') (cE env x')=some g'):B4 P hs a o w D ι id .undef g':=by
 have rx:=cJ E hx
 have ry:=cJ E hy
 unfold bR at hv
 split at hv
 ·rename_i i k off hp
  rw[hp]at rx
  simp only[Option.bind_eq_some_iff]at hv
  obtain⟨r,hg,cs,dn,hv⟩:=hv
  split at hv
  ·rename_i hc
   obtain⟨c1,c2,c3,c4⟩:=hc
   simp at hv;subst hv
   obtain⟨B,he,hB,hk⟩:=ir rx
   obtain⟨B',dr,R,jA,oI⟩:=S.row i r hg
   rw[hB]at dr;injection dr with dr;subst dr
   replace R:=R.row hk
   obtain⟨cur,T,hblk,hC,uI⟩:=R.cur
   have hL:=qe ry c3
   have h1:=Br hL (List.all_eq_true.1 c3)
   have Kp:(a.eval y).cells.size=n:=by rw[hL.1,c2]
   have kW:=(List.getElem?_eq_some_iff.1 dn).1
   have hlen:=R.len cs (List.mem_of_getElem? dn)
   have hbound:k*r.sz+r.sz<=r.rows.length*r.sz:=by
    have:(k+1)*r.sz<=r.rows.length*r.sz:=Nat.mul_le_mul_right _ kW
    rwa [Nat.add_mul,Nat.one_mul]at this
   have hf:=R.fits
   have dc:=run_storeCells_at P B.b (k*B.sz+off) T (a.eval y).cells.toList 0 cur w hblk (by rw[R.sz];simp only[Array.length_toList];omega) h1
   simp only[Nat.add_zero,Array.length_toList]at dc
   have uQ:=S.put (r':={r with rows:=r.rows.set k (cK cs off (cE env y').cells)}) hg c1 hB hblk (cur':=(cur.toList.take (k*B.sz+off)++(a.eval y).cells.toList++cur.toList.drop (k*B.sz+off+(a.eval y).cells.size)).toArray)
    (by rw[R.sz];simp;omega) c1 rfl (by simpa using R.fits) (fun c Sr=>by
     rcases List.mem_or_eq_of_mem_set Sr with h|rfl
     ·exact R.len c h
     ·simp[cK];omega) (fun c Sr b hb=>by
     rcases List.mem_or_eq_of_mem_set Sr with h|rfl
     ·exact R.flat c h b hb
     ·unfold cK at hb
      rcases List.mem_append.1 hb with hb|hb
      ·rcases List.mem_append.1 hb with hb|hb
       ·exact R.flat cs (List.mem_of_getElem? dn) b (List.mem_of_mem_take hb)
       ·exact List.all_eq_true.1 c3 b hb
      ·exact R.flat cs (List.mem_of_getElem? dn) b (List.mem_of_mem_drop hb)) (fun i2 j c b xC hj=>by
     rw[R.sz]
     simp only[List.getElem?_toArray]
     by_cases xD:i2=k
     ·subst xD
      rw[List.getElem?_set_self kW]at xC
      injection xC with xC;subst xC
      unfold cK at hj
      by_cases hjo:j<off
      ·rw[List.append_assoc,List.getElem?_append_left (by simp;omega),List.getElem?_take,if_pos hjo]at hj
       rw[List.append_assoc,List.getElem?_append_left (by simp;omega),List.getElem?_take,if_pos (by omega)]
       simpa using uI _ _ _ _ dn hj
      ·by_cases nu:j<off+n
       ·rw[List.append_assoc,List.getElem?_append_right (by simp;omega),List.getElem?_append_left (by simp;omega)]at hj
        rw[List.append_assoc,List.getElem?_append_right (by simp;omega),List.getElem?_append_left (by simp;omega)]
        simp only[List.length_take]at hj ⊢
        rw[show j-min off cs.length=j-off by omega]at hj
        rw[show i2*r.sz+j-min (i2*r.sz+off) cur.toList.length=j-off by simp;omega]
        simpa using hL.2 _ _ hj
       ·rw[List.getElem?_append_right (by simp;omega)]at hj
        rw[List.getElem?_append_right (by simp;omega)]
        simp only[List.length_append,List.length_take,List.getElem?_drop,Array.length_toList]at hj ⊢
        rw[show off+(cE env y').cells.length+(j-(min off cs.length+(cE env y').cells.length))=j by omega]at hj
        rw[show i2*r.sz+off+(a.eval y).cells.size+(i2*r.sz+j-(min (i2*r.sz+off) cur.size+(a.eval y).cells.size))=i2*r.sz+j by omega]
        simpa using uI _ _ _ _ dn hj
     ·rw[List.getElem?_set_ne (fun e=>xD e.symm)]at xC
      have hi2l:=(List.getElem?_eq_some_iff.1 xC).1
      have gw:j<r.sz:=by rw[<-R.len c (List.mem_of_getElem? xC)];exact(List.getElem?_eq_some_iff.1 hj).1
      have:=uI _ _ _ _ xC hj
      rcases Nat.lt_or_gt_of_ne xD with dz|Ka
      ·have h2:i2*r.sz+j<k*r.sz:=jD dz gw
       rw[List.append_assoc,List.getElem?_append_left (by simp;omega),List.getElem?_take,if_pos (by omega)]
       simpa using this
      ·have h2:k*r.sz+r.sz<=i2*r.sz:=by
        have:(k+1)*r.sz<=i2*r.sz:=Nat.mul_le_mul_right _ Ka
        rwa [Nat.add_mul,Nat.one_mul]at this
       rw[List.getElem?_append_right (by simp;omega)]
       simp only[List.length_append,List.length_take,List.getElem?_drop,Array.length_toList]
       rw[show k*r.sz+off+(a.eval y).cells.size+(i2*r.sz+j-(min (k*r.sz+off) cur.size+(a.eval y).cells.size))=i2*r.sz+j by omega]
       simpa using this)
   refine⟨undef,_,ι,.inr ⟨?_,rfl⟩,uQ.2,uQ.1,cq.undef,fun _ _=>rfl⟩
   simp only[execOp,ho,he,Instr.storeAt,Instr.sureAddr,storeVar,Sem.run_bind,Sem.run_pure,Result.andThen_ok,run_sizeOf hn,Kp,ne_eq,not_true_eq_false,if_false,dc]
  ·simp at hv
 ·simp at hv
end
end Go.Proofs.YtgoelphibofcmaaGreat.V

namespace Go.Proofs.YtgoelphibofcmaaGreat.V
open Go.RowKit
variable {P:Program} {w w':World} {D D':Nat->Prop} {ι ι':Names}
section
variable {g:Rows} {hs:Nat} {env:Env} {a:Act} {o:Oper} {id:Id} {v:AV}
theorem qS (S:fU P hs D ι g w) {y:AV} {u:Value} {ys:List (List AV)} {sz:Nat} (hr:cq P w D ι y u) (hy:bz g y=some ys) (hl:∀c∈ys,c.length=sz) (hf:∀c∈ys,∀b∈c,b.cell=true):
  ∃A c,u=.slice A ys.length c/\(ys=[]∨∃b o,∃news:List Value,A=some ⟨b,o,none⟩/\news.length=ys.length*sz/\(∀j v,news[j]? =some v->w.cell? ⟨b,o+j,none⟩=some v)/\fh P w D ι ys.flatten news.toArray/\∀v∈news,v.oneCell'=true):=by
 have fin:∀b o,ys≠[]->(∀i j cs x,ys[i]? =some cs->cs[j]? =some x->∃v,w.cell? ⟨b,o+(i*sz+j),none⟩=some v/\cq P w D ι x v)->
   ∃news:List Value,news.length=ys.length*sz/\(∀j v,news[j]? =some v->w.cell? ⟨b,o+j,none⟩=some v)/\fh P w D ι ys.flatten news.toArray/\∀v∈news,v.oneCell'=true:=by
  intro b o _ h
  have hlen:=Hz hl
  have at_:∀k,k<ys.length*sz->∃x,ys.flatten[k]? =some x/\∃v,w.cell? ⟨b,o+k,none⟩=some v/\cq P w D ι x v:=by
   intro k hk
   have k5:0<sz:=by
    rcases Nat.eq_zero_or_pos sz with h0|h0
    ·subst h0;simp at hk
    ·exact h0
   have hi:k / sz<ys.length:=Nat.div_lt_of_lt_mul (by rw[Nat.mul_comm];exact hk)
   have hj:k % sz<sz:=Nat.mod_lt _ k5
   have dn:=List.getElem?_eq_getElem hi
   have gw:k % sz<ys[k / sz].length:=by rw[hl _ (List.getElem_mem hi)];exact hj
   have hx:=List.getElem?_eq_getElem gw
   have e:k / sz*sz+k % sz=k:=by rw[Nat.mul_comm];exact Nat.div_add_mod _ _
   refine⟨_,by rw[<-flat_get hl dn hx,e],?_⟩
   obtain⟨v,hv,lk⟩:=h _ _ _ _ dn hx
   rw[e]at hv
   exact⟨v,hv,lk⟩
  let news:=(List.range (ys.length*sz)).map fun k=>(w.cell? ⟨b,o+k,none⟩).getD undef
  have hn:∀k,k<ys.length*sz->∀v,w.cell? ⟨b,o+k,none⟩=some v->news[k]? =some v:=fun k hk v hv=>by
   simp only[news,List.getElem?_map,List.getElem?_range hk,Option.map_some,hv,Option.getD_some]
  have hR:fh P w D ι ys.flatten news.toArray:=⟨by simp[news,hlen],fun j x hx=>by
   have gw:=(List.getElem?_eq_some_iff.1 hx).1
   rw[hlen]at gw
   obtain⟨x',sQ,v,hv,lk⟩:=at_ j gw
   rw[hx]at sQ;injection sQ with sQ;subst sQ
   exact⟨v,by simpa using hn j gw v hv,lk⟩⟩
  refine⟨news,by simp[news],fun j v hj=>?_,hR,?_⟩
  ·have gw:j<ys.length*sz:=by have:=(List.getElem?_eq_some_iff.1 hj).1;simpa[news]using this
   obtain⟨x,_,v',nw,_⟩:=at_ j gw
   rw[hn j gw v' nw]at hj
   injection hj with hj
   rw[<-hj];exact nw
  ·have:=Br hR (fun x hx=>by
    obtain⟨c,hc,Th⟩:=List.mem_flatten.1 hx
    exact hf c hc x Th)
   simpa using this
 unfold bz at hy
 split at hy
 ·simp at hy;subst hy
  exact⟨none,0,jT hr,.inl rfl⟩
 ·rename_i rows
  simp at hy;subst hy
  obtain⟨A,c,he,_,_,h3⟩:=vN hr
  refine⟨A,c,he,?_⟩
  rcases h3 with h3|⟨b,oo,sz',vs,rfl,hD,JB,_,hc,hi⟩
  ·exact .inl h3
  ·by_cases h0:rows=[]
   ·exact .inl h0
   ·have AQ:sz'=sz:=by
     cases rows with
     |nil=>exact(h0 rfl).elim
     |cons c r=>rw[<-JB c (by simp),hl c (by simp)]
    subst AQ
    obtain⟨news,q1,q2,q3,q4⟩:=fin b oo h0 (fun i j cs x dn hx=>⟨_,hc i j (List.getElem?_eq_some_iff.1 dn).1 (by rw[<-JB cs (List.mem_of_getElem? dn)];exact(List.getElem?_eq_some_iff.1 hx).1),.eF _ _ (hi i j cs x dn hx)⟩)
    exact .inr ⟨b,oo,news,rfl,q1,q2,q3,q4⟩
 ·rename_i i off len
  simp only[Option.bind_eq_some_iff]at hy
  obtain⟨r,hg,hy⟩:=hy
  split at hy
  ·rename_i hle
   simp at hy;subst hy
   obtain⟨oo,cap,B,he,hB,h1,h2,h3,h4,hk⟩:=iG hr
   obtain⟨B',dr,R,_,_⟩:=S.row i r hg
   rw[hB]at dr;injection dr with dr;subst dr
   replace R:=R.row hk
   have hlen:((r.rows.drop off).take len).length=len:=by simp;omega
   refine⟨some ⟨B.b,oo,none⟩,cap,by rw[hlen];exact he,?_⟩
   by_cases h0:(r.rows.drop off).take len=[]
   ·exact .inl h0
   ·have AQ:r.sz=sz:=by
     cases hq:(r.rows.drop off).take len with
     |nil=>exact(h0 hq).elim
     |cons c q=>
      have hm:c∈(r.rows.drop off).take len:=by rw[hq];simp
      rw[<-hl c hm,R.len c (List.mem_of_mem_drop (List.mem_of_mem_take hm))]
    have hlp:0<len:=by rw[<-hlen];exact List.length_pos_iff.2 h0
    have BS:oo=off*B.sz:=by rcases h2 with h2|h2<;>omega
    obtain⟨news,q1,q2,q3,q4⟩:=fin B.b oo h0 (fun i2 j cs x dn hx=>by
     rw[List.getElem?_take]at dn
     split at dn
     ·rw[List.getElem?_drop]at dn
      obtain⟨v,hv,lk⟩:=R.at_ _ _ _ _ dn hx
      refine⟨v,?_,lk⟩
      rw[BS,R.sz,<-AQ]
      rw[Nat.add_mul]at hv
      rw[<-Nat.add_assoc]
      exact hv
     ·simp at dn)
    exact .inr ⟨B.b,oo,news,rfl,q1,q2,q3,q4⟩
  ·simp at hy
 ·simp at hy
theorem ot {t ty e:TypeId} {i:TypeInfo} (ht:P.underlying t=some (.slice e)) (hi:P.info? e=some i) (A:Option Addr) (n c:Nat) (hn:n<=c) (B:Option Addr) (d:Nat):
  (Builtin.append_ #[t,t] ty #[.slice A n c,.slice B 0 d]).run P w=.ok (.slice A n c) w:=by
 have hf:(Builtin.firstCells i.size 0 (.slice B 0 d)).run P w=.ok #[] w:=by
  cases B<;>simp[Builtin.firstCells,loadCells,loadCellsFrom]
 cases A with
 |none=>simp[Builtin.append_,run_underlying ht,sizeOf,typeInfo,hi,Builtin.lenOf,hn,hf]
 |some A=>simp[Builtin.append_,run_underlying ht,sizeOf,typeInfo,hi,Builtin.lenOf,hn,hf,storeCells]
theorem wZ {t ty e T:TypeId} {i:TypeInfo} (ht:P.underlying t=some (.slice e)) (hi:P.info? e=some i) (b qV Ds:Nat) (cur:Array Value) (hg:w.heap[b]? =some (.cells cur T (0,0)))
  (x:Addr) (m c:Nat) (news:List Value) (hl:news.length=m*i.size) (PU:∀j u,news[j]? =some u->w.cell? (x.add j)=some u) (h1:∀u∈news,u.oneCell'=true)
  (fV:qV+m<=Ds) (AK:qV*i.size+news.length<=cur.size):
  (Builtin.append_ #[t,t] ty #[.slice (some ⟨b,0,none⟩) qV Ds,.slice (some x) m c]).run P w=
   .ok (.slice (some ⟨b,0,none⟩) (qV+m) Ds) (w.setRow b (cur.toList.take (qV*i.size)++news++cur.toList.drop (qV*i.size+news.length)).toArray):=by
 have hf:=run_firstCells_some (P:=P) w i.size m x m c news hl PU
 have dc:=run_storeCells_at P b (qV*i.size) T news 0 cur w hg (by simpa using AK) h1
 simp only[Nat.add_zero]at dc
 simp[Builtin.append_,run_underlying ht,sizeOf,typeInfo,hi,Builtin.lenOf,fV,hf,jW,dc]
theorem AE (w:World) (FZ xV:Nat) (e:TypeId) (h:FZ<=dP):FZ<=grownCap w FZ xV e/\grownCap w FZ xV e<=maxLen:=by
 unfold dP at h
 simp only[grownCap,Question.cut,maxLen]
 have:=Nat.mod_lt (w.tape w.drawn (.appendCap FZ xV e)) (show 0<2 ^ 63-FZ by omega)
 omega
theorem fI {x y:Operand} {t:TypeId} {u:Value} (ho:o.op=.call {callee:=.builtin .append,args:= #[x,y],argTypes:= #[t,t]}) (h:(Builtin.append_ #[t,t] o.type #[a.eval x,a.eval y]).run P w=.ok u w'):(execOp a.eval o).run P w=.ok (.value u) w':=by
 simp only[execOp,ho,resolve,Sem.run_bind,Sem.run_pure,Result.andThen_ok,invoke,builtin]
 simp only[List.map_toArray,List.map_cons,List.map_nil]
 rw[h];rfl
theorem BA {T:TypeId} (S:fU P hs D ι g w) (cells:Array Value) (hn:ι id=none) (B:rz):Step hs D ι w D (ke ι id B) (w.drew.alloc (.cells cells T)):=
 Step.stay S (fun k hk=>by show(w.heap.push _)[k]? = _;rw[Array.getElem?_push,if_neg (by omega)]) (by show _<=(w.heap.push _).size;simp) rfl rfl rfl (fun _ h=>h) (fun _ h=>.inl h) (eY hn)
theorem Ho {x y:Operand} {x' y':O} {t e:TypeId} {m:Nat} {z:List K} {i:TypeInfo} {ys:List (List AV)} {g':Rows} (S:fU P hs D ι g w) (E:bD P w D ι env a) (hn:ι id=none) (ho:o.op=.call {callee:=.builtin .append,args:= #[x,y],argTypes:= #[t,t]})
  (ht:P.underlying t=some (.slice e)) (e9:dI P e=some (m+1)) (hz:ju P e=some z) (hi:P.info? e=some i) (hby:i.bytes<=32768) (hx:cO P x=some x') (hy:cO P y=some y') (Et:bz g (cE env y')=some ys)
  (hv:aU g id (m+1) (cE env x') ys=some (v,g')):B4 P hs a o w D ι id v g':=by
 have rx:=cJ E hx
 have ry:=cJ E hy
 obtain⟨it,zv,qi,uS,OU,hm,Eu⟩:=jH hz
 rw[hi]at qi;injection qi with qi;subst qi
 have jr:i.size=m+1:=by simpa[dI,hi]using e9
 have fits:∀n,n<=dP->n*i.bytes<=140737488355328:=fun n h=>by
  unfold dP at h
  have:=Nat.mul_le_mul h hby
  omega
 have e63:∀n,n<=dP->(n:Int)<=9223372036854775807:=fun n h=>by unfold dP at h;omega
 have same:∀(w1:World) (cells:Array Value),w1=w.drew.alloc (.cells cells e)->w1.heap=w.heap.push (.cells cells e (0,0)):=fun w1 cells h=>by subst h;rfl
 have O5:∀l:List (List AV),(l.all fun c=>c.length==m+1&&c.all AV.cell)=true->(∀c∈l,c.length=m+1)/\∀c∈l,∀b∈c,b.cell=true:=fun l h=>by
  rw[List.all_eq_true]at h
  refine⟨fun c hc=>?_,fun c hc b hb=>?_⟩
  ·have:=h c hc;simp at this;exact this.1
  ·have:=h c hc;simp at this;exact this.2 b hb
 unfold aU at hv
 split at hv
 ·rename_i hb
  rw[hb]at rx
  have ex:=jT rx
  split at hv
  ·simp at hv
   obtain⟨rfl,rfl⟩:=hv
   obtain⟨A,c,ey,_⟩:=qS (sz:=m+1) S ry Et (fun c h=>by cases h) (fun c h=>by cases h)
   refine⟨_,w,ι,.inl (fI ho (by rw[ex,ey];exact ot ht hi none 0 0 (Nat.le_refl _) A c)),Step.refl _ _ _ _,S,.eF _ _ .cj,fun _ _=>rfl⟩
  ·rename_i y0 yr
   split at hv
   ·rename_i hc
    simp only[Option.some.injEq,Prod.mk.injEq]at hv
    obtain⟨rfl,rfl⟩:=hv
    obtain⟨hl,hf⟩:=O5 _ hc.2
    obtain⟨A,c,ey,h2⟩:=qS (sz:=m+1) S ry Et hl hf
    rcases h2 with h2|⟨b,oo,news,rfl,q1,q2,q3,q4⟩
    ·cases h2
    have fM:=run_append_nil (P:=P) w t o.type e i zv ht hi uS ⟨b,oo,none⟩ (y0::yr).length c news (by rw[jr];exact q1) (fun j v hj=>by rw[jW];exact q2 j v hj) (by simp) (e63 _ hc.1) (by have:=fits _ hc.1;omega)
    obtain⟨g1,g2⟩:=AE w (y0::yr).length 0 e hc.1
    have dn:(news.toArray++Builtin.zeroCells zv.cells (grownCap w (y0::yr).length 0 e-(y0::yr).length)).size=grownCap w (y0::yr).length 0 e*(m+1):=by
     rw[Array.size_append,size_zeroCells,OU,jr]
     simp only[List.size_toArray,q1]
     rw[<-Nat.add_mul];congr 1;omega
    have S1:=S.alloc (w':=w.drew.alloc (.cells (news.toArray++Builtin.zeroCells zv.cells (grownCap w (y0::yr).length 0 e-(y0::yr).length)) e)) (r:=⟨true,m+1,y0::yr⟩) rfl hn rfl (by rw[dn];exact Nat.mul_le_mul_right _ g1) hl hf
     (fun k j cs b2 hk hj=>by
      obtain⟨u,hu,wS⟩:=q3.2 _ _ (flat_get hl hk hj)
      refine⟨u,?_,wS⟩
      have dz:=(Array.getElem?_eq_some_iff.1 hu).1
      dsimp only
      rw[Array.getElem?_append_left dz];exact hu)
    have dc:=BA (T:=e) S (news.toArray++Builtin.zeroCells zv.cells (grownCap w (y0::yr).length 0 e-(y0::yr).length)) hn ⟨w.heap.size,m+1,(news.toArray++Builtin.zeroCells zv.cells (grownCap w (y0::yr).length 0 e-(y0::yr).length)).size,none⟩
    refine⟨_,_,_,.inl (fI ho (by rw[ex,ey];exact fM)),dc,S1,?_,fun _ h=>fQ h⟩
    refine .own _ _ _ _ _ _ (dH _ _ _) rfl g1 (.inr (by simp)) ?_ g2
    dsimp only;rw[dn];simp
   ·simp at hv
 ·rename_i i0 len hb
  rw[hb]at rx
  simp only[Option.bind_eq_some_iff]at hv
  obtain⟨r,hg,hv⟩:=hv
  split at hv
  ·rename_i hc
   obtain⟨c1,c2,c3,c4,c5⟩:=hc
   simp only[Option.some.injEq,Prod.mk.injEq]at hv
   obtain⟨rfl,rfl⟩:=hv
   obtain⟨hl,hf⟩:=O5 _ c5
   obtain⟨A,c,ey,h2⟩:=qS (sz:=m+1) S ry Et hl hf
   obtain⟨oo,cap,B,ex,hB,h1,BS,h3,h4,hk⟩:=iG rx
   obtain⟨B',dr,R,jA,oI⟩:=S.row _ _ hg
   rw[hB]at dr;injection dr with dr;subst dr
   replace R:=R.row hk
   have HC:B.sz=m+1:=R.sz.trans c2
   have y5:∀cs∈r.rows++ys,cs.length=m+1:=fun cs dn=>by
    rcases List.mem_append.1 dn with h|h
    ·rw[<-c2];exact R.len cs h
    ·exact hl cs h
   have Lt:∀cs∈r.rows++ys,∀b∈cs,b.cell=true:=fun cs dn=>by
    rcases List.mem_append.1 dn with h|h
    ·exact R.flat cs h
    ·exact hf cs h
   rcases h2 with rfl|⟨yb,yo,news,rfl,q1,q2,q3,q4⟩
   ·have Fy:=S.rename hg c1 hB hn
    refine⟨_,w,ke ι id B,.inl (fI ho (by rw[ex,ey];exact ot ht hi _ _ _ h1 A c)),⟨Below.refl _ _,fun _ _=>rfl,fun _ h=>h,eY hn,fun _ h=>.inl h⟩,?_,?_,fun _ h=>fQ h⟩
    ·have:(⟨true,m+1,r.rows++[]⟩:Row)=r:=by cases r;simp_all
     rw[this];exact Fy
    ·simp only[List.length_nil,Nat.add_zero]
     exact .own _ _ _ _ _ B (dH _ _ _) hk h1 BS h3 h4
   ·obtain⟨cur,T,hblk,hC,uI⟩:=R.cur
    by_cases fV:len+ys.length<=cap
    ·have Ro:ys≠[]->oo=0:=fun h=>by
      rcases BS with BS|BS
      ·have:=List.length_pos_iff.2 h;omega
      ·simpa using BS
     by_cases hy0:ys=[]
     ·subst hy0
      have Fy:=S.rename hg c1 hB hn
      refine⟨_,w,ke ι id B,.inl (fI ho (by rw[ex,ey];exact ot ht hi _ _ _ h1 _ c)),⟨Below.refl _ _,fun _ _=>rfl,fun _ h=>h,eY hn,fun _ h=>.inl h⟩,?_,?_,fun _ h=>fQ h⟩
      ·have:(⟨true,m+1,r.rows++[]⟩:Row)=r:=by cases r;simp_all
       rw[this];exact Fy
      ·simp only[List.length_nil,Nat.add_zero]
       exact .own _ _ _ _ _ B (dH _ _ _) hk h1 BS h3 h4
     have ho0:=Ro hy0
     subst ho0
     have AK:len*i.size+news.length<=cur.size:=by
      rw[jr,q1,hC,<-Nat.add_mul]
      refine Nat.le_trans ?_ h3
      rw[HC,Nat.zero_add]
      exact Nat.mul_le_mul_right _ fV
     have fM:=wZ (ty:=o.type) ht hi B.b len cap cur hblk ⟨yb,yo,none⟩ ys.length c news (by rw[jr];exact q1) (fun j v hj=>by rw[jW];exact q2 j v hj) q4 fV AK
     have nX:cur.toList.length=cur.size:=Array.length_toList
     simp only[jr]at fM AK
     obtain⟨P1,P2⟩:=S.put (r':=⟨true,m+1,r.rows++ys⟩) hg c1 hB hblk (cur':=(cur.toList.take (len*(m+1))++news++cur.toList.drop (len*(m+1)+news.length)).toArray) (by simp only[List.size_toArray,List.length_append,List.length_take,List.length_drop,nX];omega) rfl c2.symm
      (by dsimp only;rw[List.length_append,<-c3,<-HC];refine Nat.le_trans (Nat.mul_le_mul_right _ fV) (Nat.le_trans (by simp) h3)) y5 Lt (fun k j cs b2 hk hj=>by
       simp only[List.getElem?_toArray]
       have gw:j<m+1:=by rw[<-y5 cs (List.mem_of_getElem? hk)];exact(List.getElem?_eq_some_iff.1 hj).1
       rw[c2]
       by_cases kW:k<r.rows.length
       ·rw[List.getElem?_append_left kW]at hk
        have h2:k*(m+1)+j<len*(m+1):=jD (by omega) gw
        rw[List.append_assoc,List.getElem?_append_left (by simp only[List.length_take,nX];omega),List.getElem?_take,if_pos h2]
        have:=uI k j cs b2 hk hj
        rw[c2]at this;simpa using this
       ·rw[List.getElem?_append_right (by omega)]at hk
        have uM:=(List.getElem?_eq_some_iff.1 hk).1
        have oH:len*(m+1)<=k*(m+1):=Nat.mul_le_mul_right _ (by omega)
        have nZ:k*(m+1)+j-len*(m+1)=(k-r.rows.length)*(m+1)+j:=by
         rw[<-c3,Nat.sub_mul];omega
        obtain⟨u,hu,wS⟩:=q3.2 _ _ (flat_get hl hk hj)
        refine⟨u,?_,wS⟩
        have Er:news[(k-r.rows.length)*(m+1)+j]? =some u:=by simpa using hu
        have dz:=(List.getElem?_eq_some_iff.1 Er).1
        rw[List.append_assoc,List.getElem?_append_right (by simp only[List.length_take,nX];omega),List.getElem?_append_left (by simp only[List.length_take,nX];omega)]
        rw[<-Er]
        congr 1
        simp only[List.length_take,nX]
        omega)
     have eO:bB (bY (bB g i0 ⟨true,m+1,r.rows++ys⟩) i0) id ⟨true,m+1,r.rows++ys⟩=bB (bY g i0) id ⟨true,m+1,r.rows++ys⟩:=by
      funext q;simp only[bB,bY]
      by_cases h:q=id<;>by_cases h':q=i0<;>simp[h,h']
     have Fy:=P1.rename (i:=i0) (id:=id) (r:=⟨true,m+1,r.rows++ys⟩) (by simp[bB]) rfl hB hn
     rw[eO]at Fy
     refine⟨_,_,_,.inl (fI ho (by rw[ex,ey];exact fM)),P2.trans ⟨Below.refl _ _,fun _ _=>rfl,fun _ h=>h,eY hn,fun _ h=>.inl h⟩,Fy,?_,fun _ h=>fQ h⟩
     exact .own _ _ _ _ _ B (dH _ _ _) hk fV (.inr (by simp)) h3 h4
    ·
     have holds:∃tr:List Value,tr.length=len*(m+1)/\(∀j v,tr[j]? =some v->w.cell? ⟨B.b,oo+j,none⟩=some v)/\fh P w D ι r.rows.flatten tr.toArray:=by
      obtain⟨A2,c2',e2,h2⟩:=qS (sz:=m+1) (u:=.slice (some ⟨B.b,oo,none⟩) len cap) S (.own i0 0 len oo cap B hB hk h1 BS h3 h4) (ys:=r.rows) (by simp[bz,hg,c3]) (fun cs h=>by rw[<-c2];exact R.len cs h) R.flat
      rcases h2 with h2|⟨b2,o2,tr,rfl,p1,p2,p3,_⟩
      ·refine⟨[],by simp[c3,h2],fun j v h=>by simp at h,by rw[h2];exact⟨rfl,fun j a h=>by simp at h⟩⟩
      ·injection e2 with e2 _ _
       injection e2 with e2
       injection e2 with e21 e22 _
       subst e21;subst e22
       exact⟨tr,by rw[p1,c3],p2,p3⟩
     obtain⟨tr,p1,p2,p3⟩:=holds
     have fM:=run_append_grow (P:=P) w t o.type e i zv ht hi uS ⟨B.b,oo,none⟩ len cap tr (by rw[jr];exact p1) (fun j v hj=>by rw[jW];exact p2 j v hj) ⟨yb,yo,none⟩ ys.length c news (by rw[jr];exact q1) (fun j v hj=>by rw[jW];exact q2 j v hj) (by omega) (e63 _ c4) (growslice_fits (by omega) (fits _ c4))
     obtain⟨g1,g2⟩:=AE w (len+ys.length) cap e c4
     have dn:(tr.toArray++news.toArray++Builtin.zeroCells zv.cells (grownCap w (len+ys.length) cap e-(len+ys.length))).size=grownCap w (len+ys.length) cap e*(m+1):=by
      rw[Array.size_append,Array.size_append,size_zeroCells,OU,jr]
      simp only[List.size_toArray,q1,p1]
      rw[<-Nat.add_mul,<-Nat.add_mul];congr 1;omega
     have S1:=(S.kill i0).alloc (id:=id) (w':=w.drew.alloc (.cells (tr.toArray++news.toArray++Builtin.zeroCells zv.cells (grownCap w (len+ys.length) cap e-(len+ys.length))) e)) (r:=⟨true,m+1,r.rows++ys⟩) rfl hn rfl (by dsimp only;rw[dn,List.length_append,<-c3];exact Nat.mul_le_mul_right _ g1) y5 Lt
      (fun k j cs b2 hk hj=>by
       have J8:=flat_get y5 hk hj
       rw[List.flatten_append]at J8
       have hol:tr.length=r.rows.flatten.length:=by have:=p3.1;simpa using this
       dsimp only
       by_cases dz:k*(m+1)+j<r.rows.flatten.length
       ·rw[List.getElem?_append_left dz]at J8
        obtain⟨u,hu,wS⟩:=p3.2 _ _ J8
        refine⟨u,?_,wS⟩
        rw[Array.getElem?_append_left (by simp;omega),Array.getElem?_append_left (by simp;omega)];exact hu
       ·rw[List.getElem?_append_right (by omega)]at J8
        obtain⟨u,hu,wS⟩:=q3.2 _ _ J8
        refine⟨u,?_,wS⟩
        have AN:=(Array.getElem?_eq_some_iff.1 hu).1
        simp only[List.size_toArray]at AN
        rw[Array.getElem?_append_left (by simp;omega),Array.getElem?_append_right (by simp;omega)]
        simp only[List.size_toArray,hol];exact hu)
     have dc:=BA (T:=e) S (tr.toArray++news.toArray++Builtin.zeroCells zv.cells (grownCap w (len+ys.length) cap e-(len+ys.length))) hn ⟨w.heap.size,m+1,(tr.toArray++news.toArray++Builtin.zeroCells zv.cells (grownCap w (len+ys.length) cap e-(len+ys.length))).size,none⟩
     refine⟨_,_,_,.inl (fI ho (by rw[ex,ey];exact fM)),dc,S1,?_,fun _ h=>fQ h⟩
     refine .own _ _ _ _ _ _ (dH _ _ _) rfl g1 (.inr (by simp)) ?_ g2
     dsimp only;rw[dn];simp
  ·simp at hv
 ·simp at hv
theorem kK {x:Operand} {t:TypeId} {u:Value} (ho:o.op=.call {callee:=.builtin .clear,args:= #[x],argTypes:= #[t]}) (h:(Builtin.clear_ #[t] o.type #[a.eval x]).run P w=.ok u w'):(execOp a.eval o).run P w=.ok (.value u) w':=by
 simp only[execOp,ho,resolve,Sem.run_bind,Sem.run_pure,Result.andThen_ok,invoke,builtin]
 simp only[List.map_toArray,List.map_cons,List.map_nil]
 rw[h];rfl
theorem JX {x:Operand} {x':O} {t e:TypeId} {m:Nat} {z:List K} {g':Rows} (S:fU P hs D ι g w) (E:bD P w D ι env a) (ho:o.op=.call {callee:=.builtin .clear,args:= #[x],argTypes:= #[t]})
  (ht:P.underlying t=some (.slice e)) (e9:dI P e=some (m+1)) (hz:ju P e=some z) (hx:cO P x=some x') (hv:bK g z (cE env x')=some g'):B4 P hs a o w D ι id .undef g':=by
 have rx:=cJ E hx
 obtain⟨it,zv,hi,uS,OU,hm,Eu⟩:=jH hz
 have jr:it.size=m+1:=by simpa[dI,hi]using e9
 unfold bK at hv
 split at hv
 ·rename_i hb
  rw[hb]at rx
  simp at hv;subst hv
  refine⟨undef,w,ι,.inl (kK ho (by rw[jT rx];simp only[Builtin.clear_,Sem.run_bind];simp[run_underlying ht,undef])),Step.refl _ _ _ _,S,cq.undef,fun _ _=>rfl⟩
 ·rename_i i off len hb
  rw[hb]at rx
  simp only[Option.bind_eq_some_iff]at hv
  obtain⟨r,hg,hv⟩:=hv
  split at hv
  ·rename_i hc
   obtain⟨c1,c2,c3⟩:=hc
   simp only[Option.some.injEq]at hv;subst hv
   obtain⟨oo,cap,B,ex,hB,h1,h2,h3,h4,hk⟩:=iG rx
   obtain⟨B',dr,R,jA,oI⟩:=S.row _ _ hg
   rw[hB]at dr;injection dr with dr;subst dr
   replace R:=R.row hk
   obtain⟨cur,T,hblk,hC,uI⟩:=R.cur
   by_cases h0:len=0
   ·subst h0
    have e1:({r with rows:=r.rows.take off++List.replicate 0 (z.map K.av)++r.rows.drop (off+0)}:Row)=r:=by cases r;simp
    rw[e1]
    have e2:bB g i r=g:=by
     funext q;unfold bB;split
     ·rename_i h;rw[h,hg]
     ·rfl
    rw[e2]
    refine⟨undef,w,ι,.inl (kK ho (by rw[ex];simp only[Builtin.clear_,Sem.run_bind];simp[run_underlying ht,undef])),Step.refl _ _ _ _,S,cq.undef,fun _ _=>rfl⟩
   ·have BW:oo=off*B.sz:=by rcases h2 with h2|h2<;>omega
    have HC:B.sz=m+1:=by rw[R.sz,c2,Eu,jr]
    have xG:r.sz=m+1:=by rw[<-R.sz,HC]
    have Qa:zv.cells.size=m+1:=by rw[OU,jr]
    have xI:(Builtin.zeroCells zv.cells len).toList.length=len*(m+1):=by rw[Array.length_toList,size_zeroCells,Qa]
    have P9:∀k,k<len*(m+1)->∃c,z[k % z.length]? =some c/\(Builtin.zeroCells zv.cells len).toList[k]? =some c.val:=fun k hk=>by
     obtain⟨c,pr,yP⟩:=oD (n:=len*zv.cells.size) hm (by rw[Eu,jr];omega) k (by rw[Qa];exact hk)
     exact⟨c,pr,by rw[Array.getElem?_toList];exact yP⟩
    have hbound:(off+len)*(m+1)<=r.rows.length*(m+1):=Nat.mul_le_mul_right _ c3
    have AL:=R.fits
    rw[xG]at AL
    have Sy:(off+len)*(m+1)=off*(m+1)+len*(m+1):=Nat.add_mul _ _ _
    have dc:=run_storeCells_at P B.b oo T (Builtin.zeroCells zv.cells len).toList 0 cur w hblk (by rw[xI,hC,BW,HC];omega) (by
     intro v hv
     obtain⟨k,hk,rfl⟩:=List.getElem_of_mem hv
     obtain⟨c,_,yP⟩:=P9 k (by rw[<-xI];exact hk)
     rw[List.getElem?_eq_getElem hk]at yP
     injection yP with yP
     rw[yP];cases c<;>rfl)
    simp only[Nat.add_zero]at dc
    have nX:cur.toList.length=cur.size:=Array.length_toList
    obtain⟨P1,P2⟩:=S.put (r':={r with rows:=r.rows.take off++List.replicate len (z.map K.av)++r.rows.drop (off+len)}) hg c1 hB hblk (cur':=(cur.toList.take oo++(Builtin.zeroCells zv.cells len).toList++cur.toList.drop (oo+(Builtin.zeroCells zv.cells len).toList.length)).toArray)
     (by simp only[List.size_toArray,List.length_append,List.length_take,List.length_drop,nX,xI];rw[BW,HC];omega) c1 rfl (by
      have:(r.rows.take off++List.replicate len (z.map K.av)++r.rows.drop (off+len)).length=r.rows.length:=by simp;omega
      dsimp only;rw[this];exact R.fits) (fun cs dn=>by
      rcases List.mem_append.1 dn with h|h
      ·rcases List.mem_append.1 h with h|h
       ·exact R.len cs (List.mem_of_mem_take h)
       ·rw[List.eq_of_mem_replicate h];simp[c2]
      ·exact R.len cs (List.mem_of_mem_drop h)) (fun cs dn b hb=>by
      rcases List.mem_append.1 dn with h|h
      ·rcases List.mem_append.1 h with h|h
       ·exact R.flat cs (List.mem_of_mem_take h) b hb
       ·rw[List.eq_of_mem_replicate h]at hb
        obtain⟨c,_,rfl⟩:=List.mem_map.1 hb;exact c.me
      ·exact R.flat cs (List.mem_of_mem_drop h) b hb) (fun k j cs b hk hj=>by
      simp only[List.getElem?_toArray]
      rw[xG]
      rw[BW,HC,xI]
      by_cases wC:k<off
      ·rw[List.append_assoc,List.getElem?_append_left (by simp;omega),List.getElem?_take,if_pos wC]at hk
       have gw:j<m+1:=by rw[<-xG,<-R.len cs (List.mem_of_getElem? hk)];exact(List.getElem?_eq_some_iff.1 hj).1
       have h2:=jD wC gw
       rw[List.append_assoc,List.getElem?_append_left (by simp only[List.length_take,nX];omega),List.getElem?_take,if_pos h2]
       have:=uI k j cs b hk hj
       rw[xG]at this;simpa using this
      ·by_cases uM:k<off+len
       ·rw[List.append_assoc,List.getElem?_append_right (by simp;omega),List.getElem?_append_left (by simp;omega)]at hk
        have gp:=List.eq_of_mem_replicate (List.mem_of_getElem? hk)
        subst gp
        simp only[List.getElem?_map,Option.map_eq_some_iff]at hj
        obtain⟨q,hq,rfl⟩:=hj
        have gw:=(List.getElem?_eq_some_iff.1 hq).1
        rw[Eu,jr]at gw
        have oH:off*(m+1)<=k*(m+1):=Nat.mul_le_mul_right _ (by omega)
        have nZ:k*(m+1)+j-off*(m+1)=(k-off)*(m+1)+j:=by rw[Nat.sub_mul];omega
        have AN:(k-off)*(m+1)+j<len*(m+1):=jD (by omega) gw
        rw[List.append_assoc,List.getElem?_append_right (by simp only[List.length_take,nX];omega),List.getElem?_append_left (by simp only[List.length_take,nX,xI];omega)]
        obtain⟨c,pr,yP⟩:=P9 _ AN
        rw[Eu,jr,Nat.mul_comm (k-off),Nat.mul_add_mod,Nat.mod_eq_of_lt gw,hq]at pr
        injection pr with pr;subst pr
        refine⟨q.val,?_,vL q⟩
        rw[<-yP]
        congr 1
        simp only[List.length_take,nX];omega
       ·rw[List.getElem?_append_right (by simp;omega)]at hk
        simp only[List.length_append,List.length_take,List.length_replicate,List.getElem?_drop]at hk
        rw[show off+len+(k-(min off r.rows.length+len))=k by omega]at hk
        have kW:=(List.getElem?_eq_some_iff.1 hk).1
        have oH:(off+len)*(m+1)<=k*(m+1):=Nat.mul_le_mul_right _ (by omega)
        rw[List.getElem?_append_right (by simp only[List.length_append,List.length_take,nX,xI];omega)]
        simp only[List.length_append,List.length_take,nX,xI,List.getElem?_drop]
        rw[show off*(m+1)+len*(m+1)+(k*(m+1)+j-(min (off*(m+1)) cur.size+len*(m+1)))=k*(m+1)+j by omega]
        have:=uI k j cs b hk hj
        rw[xG]at this;simpa using this)
    refine⟨undef,_,ι,.inl (kK ho ?_),P2,P1,cq.undef,fun _ _=>rfl⟩
    rw[ex]
    cases len with
    |zero=>exact(h0 rfl).elim
    |succ len=>
     simp only[Builtin.clear_,Sem.run_bind]
     simp[run_underlying ht,zeroValue,typeInfo,hi,uS,dc,undef]
  ·simp at hv
 ·simp at hv
theorem Gc {dT sT ty e:TypeId} {it:TypeInfo} (hu:P.underlying dT=some (.slice e)) (hi:P.info? e=some it) (A B:Option Addr) (qV Ds Fe Mt:Nat) (h0:Nat.min qV Fe=0):
  (Builtin.copy_ #[dT,sT] ty #[.slice A Fe Mt,.slice B qV Ds]).run P w=.ok (goInt 0) w:=by
 cases A<;>cases B<;>simp[Builtin.copy_,run_underlying hu,Builtin.lenOf,Builtin.firstCells,sizeOf,typeInfo,hi,h0,storeCells,loadCells,loadCellsFrom]
theorem Gd {dT sT ty e:TypeId} {it:TypeInfo} (hu:P.underlying dT=some (.slice e)) (hi:P.info? e=some it) (A B:Addr) (qV Ds Fe Mt:Nat) (cs:List Value) (hn:cs.length=Nat.min qV Fe*it.size) (hl:(loadCells B cs.length).run P w=.ok cs.toArray w) (hs:(storeCells A cs).run P w=.ok () w'):
  (Builtin.copy_ #[dT,sT] ty #[.slice (some A) Fe Mt,.slice (some B) qV Ds]).run P w=.ok (goInt (Nat.min qV Fe)) w':=by
 simp[Builtin.copy_,run_underlying hu,Builtin.lenOf,Builtin.firstCells,sizeOf,typeInfo,hi,<-hn,hl,hs]
theorem pB {x y:Operand} {t t2:TypeId} {u:Value} (ho:o.op=.call {callee:=.builtin .copy,args:= #[x,y],argTypes:= #[t,t2]}) (h:(Builtin.copy_ #[t,t2] o.type #[a.eval x,a.eval y]).run P w=.ok u w'):(execOp a.eval o).run P w=.ok (.value u) w':=by
 simp only[execOp,ho,resolve,Sem.run_bind,Sem.run_pure,Result.andThen_ok,invoke,builtin]
 simp only[List.map_toArray,List.map_cons,List.map_nil]
 rw[h];rfl
theorem Mu {x y:Operand} {x' y':O} {t t2 e:TypeId} {m:Nat} {ys:List (List AV)} {v:AV} {g':Rows} (S:fU P hs D ι g w) (E:bD P w D ι env a) (ho:o.op=.call {callee:=.builtin .copy,args:= #[x,y],argTypes:= #[t,t2]})
  (ht:P.underlying t=some (.slice e)) (e9:dI P e=some (m+1)) (hx:cO P x=some x') (hy:cO P y=some y') (Et:bz g (cE env y')=some ys) (hv:EM g (m+1) (cE env x') ys=some (v,g')):B4 P hs a o w D ι id v g':=by
 have rx:=cJ E hx
 have ry:=cJ E hy
 obtain⟨it,hi,jr⟩:∃it,P.info? e=some it/\it.size=m+1:=by
  cases hq:P.info? e with
  |none=>simp[dI,hq]at e9
  |some it=>exact⟨it,rfl,by simpa[dI,hq]using e9⟩
 unfold EM at hv
 split at hv
 ·rename_i i off len hb
  rw[hb]at rx
  simp only[Option.bind_eq_some_iff]at hv
  obtain⟨r,hg,hv⟩:=hv
  split at hv
  ·rename_i hc
   obtain⟨c1,c2,c3,c4⟩:=hc
   simp only[Option.some.injEq,Prod.mk.injEq]at hv
   obtain⟨rfl,rfl⟩:=hv
   rw[List.all_eq_true]at c4
   have hl:∀c∈ys,c.length=m+1:=fun c hc=>by have:=c4 c hc;simp at this;exact this.1
   have hf:∀c∈ys,∀b∈c,b.cell=true:=fun c hc b hb=>by have:=c4 c hc;simp at this;exact this.2 b hb
   obtain⟨oo,cap,B,ex,hB,h1,h2,h3,h4,hk⟩:=iG rx
   obtain⟨B',dr,R,jA,oI⟩:=S.row _ _ hg
   rw[hB]at dr;injection dr with dr;subst dr
   replace R:=R.row hk
   obtain⟨cur,T,hblk,hC,uI⟩:=R.cur
   obtain⟨A,sc,hu,hA⟩:=qS S ry Et hl hf
   by_cases h0:min ys.length len=0
   ·rw[h0]
    have e1:({r with rows:=r.rows.take off++ys.take 0++r.rows.drop (off+0)}:Row)=r:=by cases r;simp
    rw[e1]
    have e2:bB g i r=g:=by
     funext q;unfold bB;split
     ·rename_i h;rw[h,hg]
     ·rfl
    rw[e2]
    refine⟨goInt 0,w,ι,.inl (pB ho (by rw[ex,hu];exact Gc ht hi _ _ _ _ _ _ h0)),Step.refl _ _ _ _,S,.eF _ _ (.int _ _),fun _ _=>rfl⟩
   ·rcases hA with rfl|⟨b,o2,news,rfl,GG,hsrc,hR,h1c⟩
    ·simp at h0
    have PR:Nat.min ys.length len=min ys.length len:=rfl
    have hky:min ys.length len<=ys.length:=Nat.min_le_left _ _
    have kW:min ys.length len<=len:=Nat.min_le_right _ _
    generalize hkk:min ys.length len=kk at *
    have hlen0:len≠0:=by omega
    have BW:oo=off*B.sz:=by rcases h2 with h2|h2<;>omega
    have HC:B.sz=m+1:=by rw[R.sz,c2]
    have xG:r.sz=m+1:=c2
    have Rf:kk*(m+1)<=ys.length*(m+1):=Nat.mul_le_mul_right _ hky
    have xI:(news.take (kk*(m+1))).length=kk*(m+1):=by rw[List.length_take,GG];omega
    have hbound:(off+kk)*(m+1)<=r.rows.length*(m+1):=Nat.mul_le_mul_right _ (by omega)
    have AL:=R.fits
    rw[xG]at AL
    have Sy:(off+kk)*(m+1)=off*(m+1)+kk*(m+1):=Nat.add_mul _ _ _
    have dc:=run_storeCells_at P B.b oo T (news.take (kk*(m+1))) 0 cur w hblk (by rw[xI,hC,BW,HC];omega) (fun v hv=>h1c v (List.mem_of_mem_take hv))
    have Ri:=run_loadCells_list (P:=P) w ⟨b,o2,none⟩ (news.take (kk*(m+1))) (fun j v hj=>by
     rw[List.getElem?_take]at hj
     split at hj
     ·have:=hsrc j v hj
      cases j with
      |zero=>simpa[Addr.add]using this
      |succ j=>simpa[Addr.add]using this
     ·cases hj)
    simp only[Nat.add_zero]at dc
    have nX:cur.toList.length=cur.size:=Array.length_toList
    have JG:(ys.take kk).length=kk:=by rw[List.length_take];omega
    obtain⟨P1,P2⟩:=S.put (r':={r with rows:=r.rows.take off++ys.take kk++r.rows.drop (off+kk)}) hg c1 hB hblk (cur':=(cur.toList.take oo++news.take (kk*(m+1))++cur.toList.drop (oo+(news.take (kk*(m+1))).length)).toArray)
     (by simp only[List.size_toArray,List.length_append,List.length_drop,nX,xI];rw[List.length_take,nX,BW,HC];omega) c1 rfl (by
      have:(r.rows.take off++ys.take kk++r.rows.drop (off+kk)).length=r.rows.length:=by simp;omega
      dsimp only;rw[this];exact R.fits) (fun cs dn=>by
      rcases List.mem_append.1 dn with h|h
      ·rcases List.mem_append.1 h with h|h
       ·exact R.len cs (List.mem_of_mem_take h)
       ·rw[hl cs (List.mem_of_mem_take h)];exact c2.symm
      ·exact R.len cs (List.mem_of_mem_drop h)) (fun cs dn b hb=>by
      rcases List.mem_append.1 dn with h|h
      ·rcases List.mem_append.1 h with h|h
       ·exact R.flat cs (List.mem_of_mem_take h) b hb
       ·exact hf cs (List.mem_of_mem_take h) b hb
      ·exact R.flat cs (List.mem_of_mem_drop h) b hb) (fun k j cs b hk hj=>by
      simp only[List.getElem?_toArray]
      rw[xG]
      rw[BW,HC,xI]
      by_cases wC:k<off
      ·rw[List.append_assoc,List.getElem?_append_left (by simp;omega),List.getElem?_take,if_pos wC]at hk
       have gw:j<m+1:=by rw[<-xG,<-R.len cs (List.mem_of_getElem? hk)];exact(List.getElem?_eq_some_iff.1 hj).1
       have h2:=jD wC gw
       rw[List.append_assoc,List.getElem?_append_left (by simp only[List.length_take,nX];omega),List.getElem?_take,if_pos h2]
       have:=uI k j cs b hk hj
       rw[xG]at this;simpa using this
      ·by_cases uM:k<off+kk
       ·rw[List.append_assoc,List.getElem?_append_right (by simp;omega),List.getElem?_append_left (by simp;omega)]at hk
        simp only[List.length_take]at hk
        rw[show k-min off r.rows.length=k-off by omega,List.getElem?_take,if_pos (by omega)]at hk
        have gw:j<m+1:=by rw[<-hl cs (List.mem_of_getElem? hk)];exact(List.getElem?_eq_some_iff.1 hj).1
        have oH:off*(m+1)<=k*(m+1):=Nat.mul_le_mul_right _ (by omega)
        have nZ:k*(m+1)+j-off*(m+1)=(k-off)*(m+1)+j:=by rw[Nat.sub_mul];omega
        have AN:(k-off)*(m+1)+j<kk*(m+1):=jD (by omega) gw
        rw[List.append_assoc,List.getElem?_append_right (by simp only[List.length_take,nX];omega),List.getElem?_append_left (by rw[xI];simp only[List.length_take,nX];omega)]
        obtain⟨u,P5,hu2⟩:=hR.2 ((k-off)*(m+1)+j) b (flat_get hl hk hj)
        refine⟨u,?_,hu2⟩
        rw[List.getElem?_take]
        simp only[List.length_take,nX]
        rw[show k*(m+1)+j-min (off*(m+1)) cur.size=(k-off)*(m+1)+j by omega,if_pos AN]
        simpa using P5
       ·rw[List.getElem?_append_right (by simp;omega)]at hk
        simp only[List.length_append,List.length_take,List.getElem?_drop]at hk
        rw[show off+kk+(k-(min off r.rows.length+min kk ys.length))=k by omega]at hk
        have kW:=(List.getElem?_eq_some_iff.1 hk).1
        have oH:(off+kk)*(m+1)<=k*(m+1):=Nat.mul_le_mul_right _ (by omega)
        rw[List.getElem?_append_right (by rw[List.length_append,xI];simp only[List.length_take,nX];omega)]
        rw[List.getElem?_drop,List.length_append,xI]
        simp only[List.length_take,nX]
        rw[show off*(m+1)+kk*(m+1)+(k*(m+1)+j-(min (off*(m+1)) cur.size+kk*(m+1)))=k*(m+1)+j by omega]
        have:=uI k j cs b hk hj
        rw[xG]at this;simpa using this)
    refine⟨goInt kk,_,ι,.inl (pB ho ?_),P2,P1,.eF _ _ (.int _ _),fun _ _=>rfl⟩
    rw[ex,hu]
    have:=Gd (w:=w) (sT:=t2) (ty:=o.type) ht hi ⟨B.b,oo,none⟩ ⟨b,o2,none⟩ ys.length sc len cap _ (by rw[xI,PR,jr]) Ri dc
    rw[PR]at this
    exact this
  ·simp at hv
 ·simp at hv
end
end Go.Proofs.YtgoelphibofcmaaGreat.V

namespace Go.Proofs.YtgoelphibofcmaaGreat.V
open Go.RowKit
variable {P:Program} {w w':World} {D D' D2:Nat->Prop} {ι ι' ι2:Names}
section
variable {g:Rows} {hs:Nat}
theorem gi:∀{n:Nat} {l r:List AV},cG g n l=some r->r.length=l.length/\∀(j:Nat) (b:AV),r[j]? =some b->∃a,l[j]? =some a/\fz g n a=some b
 |n,[],r,h=>by
  rw[cG]at h;simp at h;subst h;simp
 |n,a::l,r,h=>by
  rw[cG]at h
  split at h
  ·rename_i b hb
   simp only[Option.map_eq_some_iff]at h
   obtain⟨r',hr,rfl⟩:=h
   obtain⟨h1,h2⟩:=gi hr
   refine⟨by simp[h1],fun j c hj=>?_⟩
   cases j with
   |zero=>simp at hj;subst hj;exact⟨a,rfl,hb⟩
   |succ j=>simp at hj ⊢;exact h2 j c hj
  ·simp at h
theorem uF:∀{n:Nat} {l r:List (List AV)},dK g n l=some r->r.length=l.length/\∀(j:Nat) (b:List AV),r[j]? =some b->∃a,l[j]? =some a/\cG g n a=some b
 |n,[],r,h=>by
  rw[dK]at h;simp at h;subst h;simp
 |n,a::l,r,h=>by
  rw[dK]at h
  split at h
  ·rename_i b hb
   simp only[Option.map_eq_some_iff]at h
   obtain⟨r',hr,rfl⟩:=h
   obtain⟨h1,h2⟩:=uF hr
   refine⟨by simp[h1],fun j c hj=>?_⟩
   cases j with
   |zero=>simp at hj;subst hj;exact⟨a,rfl,hb⟩
   |succ j=>simp at hj ⊢;exact h2 j c hj
  ·simp at h
theorem qC (hD:∀b,D b->D2 b) (wH:∀id row,g id=some row->row.w=true->∃B,ι id=some B/\gq P w D ι B row/\D2 B.b):∀(n:Nat) (a:AV) (u:Value) (r:AV),cq P w D ι a u->fz g n a=some r->cq P w D2 ι2 r u/\(a.cell=true->js P w D2 r u/\r.cell=true):=by
 intro n
 induction n with
 |zero=>intro a u r _ h;rw[fz]at h;simp at h
 |succ n ih=>
  intro a u r hr h
  have both:∀{r:AV},js P w D2 r u->r.cell=true->cq P w D2 ι2 r u/\(a.cell=true->js P w D2 r u/\r.cell=true):=fun h1 h2=>⟨.eF _ _ h1,fun _=>⟨h1,h2⟩⟩
  cases a with
  |map id m=>rw[fz]at h;cases h
  |qx id=>rw[fz]at h;cases h
  |own id off len=>
   rw[fz]at h
   split at h
   ·rename_i row hg
    split at h
    ·rename_i hw
     split at h
     ·rename_i hle
      simp only[Option.map_eq_some_iff]at h
      obtain⟨rows,nY,rfl⟩:=h
      obtain⟨B,hB,R,MJ⟩:=wH id row hg hw
      obtain⟨o,cap,B',rfl,dr,h1,h2,h3,h4,hk⟩:=iG hr
      rw[hB]at dr;injection dr with dr;subst dr
      replace R:=R.row hk
      obtain⟨l1,l2⟩:=uF nY
      have hlen:rows.length=len:=by rw[l1];simp;omega
      by_cases h0:rows=[]
      ·subst h0
       simp at hlen;subst hlen
       exact both (.z8 _ _ h4) rfl
      ·have hlp:0<len:=by rw[<-hlen];exact List.length_pos_iff.2 h0
       have ho:o=off*B.sz:=by rcases h2 with h2|h2<;>omega
       have src:∀i cs,rows[i]? =some cs->∃c0,row.rows[off+i]? =some c0/\cG g n c0=some cs:=fun i cs hi=>by
        obtain⟨c0,jv,hf⟩:=l2 i cs hi
        rw[List.getElem?_take]at jv
        split at jv
        ·rw[List.getElem?_drop]at jv;exact⟨c0,jv,hf⟩
        ·simp at jv
       have cell:∀i j,i<len->j<row.sz->∃c0 a0 v,row.rows[off+i]? =some c0/\c0[j]? =some a0/\w.cell? ⟨B.b,o+(i*row.sz+j),none⟩=some v/\cq P w D ι a0 v:=fun i j hi hj=>by
        have qi:off+i<row.rows.length:=by omega
        have e1:=List.getElem?_eq_getElem qi
        have Jz:j<row.rows[off+i].length:=by rw[R.len _ (List.getElem_mem qi)];exact hj
        obtain⟨v,hv,lk⟩:=R.at_ _ _ _ _ e1 (List.getElem?_eq_getElem Jz)
        refine⟨_,_,v,e1,List.getElem?_eq_getElem Jz,?_,lk⟩
        rw[ho,R.sz,<-hv]
        congr 2
        rw[Nat.add_mul];omega
       refine both (.sl rows B.b o len cap row.sz (fun i j=>(w.cell? ⟨B.b,o+(i*row.sz+j),none⟩).getD undef) hlen h1 h4 MJ (fun cs dn=>?_) (fun cs dn b hb=>?_) (fun i j hi hj=>?_) (fun i j cs b hi hj=>?_)) rfl
       ·obtain⟨i,hi,rfl⟩:=List.getElem_of_mem dn
        obtain⟨c0,jv,hf⟩:=src i _ (List.getElem?_eq_getElem hi)
        rw[(gi hf).1];exact R.len c0 (List.mem_of_getElem? jv)
       ·obtain⟨i,hi,rfl⟩:=List.getElem_of_mem dn
        obtain⟨c0,jv,hf⟩:=src i _ (List.getElem?_eq_getElem hi)
        obtain⟨j,hj,rfl⟩:=List.getElem_of_mem hb
        obtain⟨a0,kV,HL⟩:=(gi hf).2 j _ (List.getElem?_eq_getElem hj)
        obtain⟨v,_,lk⟩:=R.at_ _ _ _ _ jv kV
        exact((ih _ _ _ lk HL).2 (R.flat c0 (List.mem_of_getElem? jv) a0 (List.mem_of_getElem? kV))).2
       ·obtain⟨c0,a0,v,_,_,hv,_⟩:=cell i j hi hj
        simp only[hv,Option.getD_some]
       ·obtain⟨c0,jv,hf⟩:=src i cs hi
        obtain⟨a0,kV,HL⟩:=(gi hf).2 j b hj
        have ly:i<len:=by rw[<-hlen];exact(List.getElem?_eq_some_iff.1 hi).1
        have gw:j<row.sz:=by rw[<-R.len c0 (List.mem_of_getElem? jv)];exact(List.getElem?_eq_some_iff.1 kV).1
        obtain⟨c1,a1,v,e1,e2,hv,lk⟩:=cell i j ly gw
        rw[jv]at e1;injection e1 with e1;subst e1
        rw[kV]at e2;injection e2 with e2;subst e2
        simp only[hv,Option.getD_some]
        exact((ih _ _ _ lk HL).2 (R.flat c0 (List.mem_of_getElem? jv) a0 (List.mem_of_getElem? kV))).1
     ·simp at h
    ·simp at h
   ·simp at h
  |ptr id i off=>
   rw[fz]at h
   split at h
   ·rename_i row hg
    split at h
    ·rename_i hw
     split at h
     ·rename_i c0 jv
      simp only[Option.map_eq_some_iff]at h
      obtain⟨cs,dn,rfl⟩:=h
      obtain⟨B,hB,R,MJ⟩:=wH id row hg hw
      obtain⟨B',rfl,dr,hk⟩:=ir hr
      rw[hB]at dr;injection dr with dr;subst dr
      replace R:=R.row hk
      obtain⟨l1,l2⟩:=gi dn
      have at_:∀j b,cs[j]? =some b->∃a0 v,w.cell? ⟨B.b,i*B.sz+off+j,none⟩=some v/\cq P w D ι a0 v/\a0.cell=true/\fz g n a0=some b:=fun j b hj=>by
       obtain⟨a0,kV,hf⟩:=l2 j b hj
       rw[List.getElem?_drop]at kV
       obtain⟨v,hv,lk⟩:=R.at_ _ _ _ _ jv kV
       refine⟨a0,v,?_,lk,R.flat c0 (List.mem_of_getElem? jv) a0 (List.mem_of_getElem? kV),hf⟩
       rw[R.sz,Nat.add_assoc];exact hv
      refine both (.cr cs B.b _ (fun j=>(w.cell? ⟨B.b,i*B.sz+off+j,none⟩).getD undef) MJ (fun b hb=>?_) (fun j hj=>?_) (fun j b hj=>?_)) rfl
      ·obtain⟨j,hj,rfl⟩:=List.getElem_of_mem hb
       obtain⟨a0,v,_,lk,hc,hf⟩:=at_ j _ (List.getElem?_eq_getElem hj)
       exact((ih _ _ _ lk hf).2 hc).2
      ·obtain⟨a0,v,hv,_⟩:=at_ j _ (List.getElem?_eq_getElem hj)
       simp only[hv,Option.getD_some]
      ·obtain⟨a0,v,hv,lk,hc,hf⟩:=at_ j b hj
       simp only[hv,Option.getD_some]
       exact((ih _ _ _ lk hf).2 hc).1
     ·simp at h
    ·simp at h
   ·simp at h
  |agg cs=>
   rw[fz]at h
   simp only[Option.map_eq_some_iff]at h
   obtain⟨r',nB,rfl⟩:=h
   obtain⟨vs,f,rfl,h1,h2,h3,h4⟩:=iF hr
   obtain⟨l1,l2⟩:=gi nB
   have hI:js P w D2 (.agg r') (.agg vs):=.agg r' vs f (by rw[h1,l1]) (fun b hb=>by
    obtain⟨j,hj,rfl⟩:=List.getElem_of_mem hb
    obtain⟨a0,kV,hf⟩:=l2 j _ (List.getElem?_eq_getElem hj)
    exact((ih _ _ _ (h4 j a0 kV) hf).2 (h2 a0 (List.mem_of_getElem? kV))).2) (fun j hj=>h3 j (by rw[<-l1];exact hj)) (fun j b hj=>by
    obtain⟨a0,kV,hf⟩:=l2 j b hj
    exact((ih _ _ _ (h4 j a0 kV) hf).2 (h2 a0 (List.mem_of_getElem? kV))).1)
   exact⟨.eF _ _ hI,fun hc=>by simp[AV.cell]at hc⟩
  |gx cs=>
   rw[fz]at h
   simp only[Option.map_eq_some_iff]at h
   obtain⟨r',nB,rfl⟩:=h
   obtain⟨vs,f,rfl,h1,h3,h4⟩:=tT hr
   obtain⟨l1,l2⟩:=gi nB
   exact⟨.gx r' vs f (by rw[h1,l1]) (fun j hj=>h3 j (by rw[<-l1];exact hj)) (fun j b hj=>by
    obtain⟨a0,kV,hf⟩:=l2 j b hj
    exact(ih _ _ _ (h4 j a0 kV) hf).1),fun hc=>by simp[AV.cell]at hc⟩
  |fn f cz=>
   rw[fz]at h
   split at h
   ·rename_i dF
    simp only[Option.map_eq_some_iff]at h
    obtain⟨r',nB,rfl⟩:=h
    obtain⟨vs,q,rfl,h0,h1,h3,h4⟩:=zr hr
    obtain⟨l1,l2⟩:=gi nB
    exact both (.fn f r' vs q h0 (by rw[h1,l1]) (fun j hj=>h3 j (by rw[<-l1];exact hj)) (fun j b hj=>by
     obtain⟨a0,kV,hf⟩:=l2 j b hj
     exact((ih _ _ _ (h4 j a0 kV) hf).2 (List.all_eq_true.1 dF a0 (List.mem_of_getElem? kV))).1)) rfl
   ·simp at h
  |int k m=>rw[fz]at h<;>(try simp at h)<;>(try subst h)<;>(try(rw[dp hr];exact⟨.eF _ _ (.int _ _),fun _=>⟨.int _ _,rfl⟩⟩))<;>(try(intros;simp_all))
  |bool b=>rw[fz]at h<;>(try simp at h)<;>(try subst h)<;>(try(rw[eX hr];exact⟨.eF _ _ (.bool _),fun _=>⟨.bool _,rfl⟩⟩))<;>(try(intros;simp_all))
  |str b=>rw[fz]at h<;>(try simp at h)<;>(try subst h)<;>(try(rw[fq hr];exact⟨.eF _ _ (.str _),fun _=>⟨.str _,rfl⟩⟩))<;>(try(intros;simp_all))
  |cj=>rw[fz]at h<;>(try simp at h)<;>(try subst h)<;>(try(rw[jT hr];exact⟨.eF _ _ .cj,fun _=>⟨.cj,rfl⟩⟩))<;>(try(intros;simp_all))
  |iM=>rw[fz]at h<;>(try simp at h)<;>(try subst h)<;>(try(rw[vM hr];exact⟨.eF _ _ .iM,fun _=>⟨.iM,rfl⟩⟩))<;>(try(intros;simp_all))
  |iX=>rw[fz]at h<;>(try simp at h)<;>(try subst h)<;>(try(rw[Bt hr];exact⟨.eF _ _ .iX,fun _=>⟨.iX,rfl⟩⟩))<;>(try(intros;simp_all))
  |sV f cz=>rw[fz]at h<;>(try simp at h)<;>(try(intros;simp_all))
  |gj=>rw[fz]at h<;>(try simp at h)<;>(try subst h)<;>(try(cases hr with|eF _ _ hr=>exact both (hr.frame (fun _ _=>rfl) hD) rfl))<;>(try(intros;simp_all))
  |sl rows=>rw[fz]at h<;>(try simp at h)<;>(try subst h)<;>(try(cases hr with|eF _ _ hr=>exact both (hr.frame (fun _ _=>rfl) hD) rfl))<;>(try(intros;simp_all))
  |cr cs=>rw[fz]at h<;>(try simp at h)<;>(try subst h)<;>(try(cases hr with|eF _ _ hr=>exact both (hr.frame (fun _ _=>rfl) hD) rfl))<;>(try(intros;simp_all))
theorem iK:∀{n:Nat} {l r:List AV},dS g n l=some r->r.length=l.length/\∀(j:Nat) (b:AV),r[j]? =some b->∃a,l[j]? =some a/\fY g n a=some b
 |n,[],r,h=>by
  rw[dS]at h;simp at h;subst h;simp
 |n,a::l,r,h=>by
  rw[dS]at h
  split at h
  ·rename_i b hb
   simp only[Option.map_eq_some_iff]at h
   obtain⟨r',hr,rfl⟩:=h
   obtain⟨h1,h2⟩:=iK hr
   refine⟨by simp[h1],fun j c hj=>?_⟩
   cases j with
   |zero=>simp at hj;subst hj;exact⟨a,rfl,hb⟩
   |succ j=>simp at hj ⊢;exact h2 j c hj
  ·simp at h
theorem sL:∀{n:Nat} {l r:List (List AV)},gR g n l=some r->r.length=l.length/\∀(j:Nat) (b:List AV),r[j]? =some b->∃a,l[j]? =some a/\dS g n a=some b
 |n,[],r,h=>by
  rw[gR]at h;simp at h;subst h;simp
 |n,a::l,r,h=>by
  rw[gR]at h
  split at h
  ·rename_i b hb
   simp only[Option.map_eq_some_iff]at h
   obtain⟨r',hr,rfl⟩:=h
   obtain⟨h1,h2⟩:=sL hr
   refine⟨by simp[h1],fun j c hj=>?_⟩
   cases j with
   |zero=>simp at hj;subst hj;exact⟨a,rfl,hb⟩
   |succ j=>simp at hj ⊢;exact h2 j c hj
  ·simp at h
theorem Fp (wH:∀id row,g id=some row->row.w=true->∃B,ι id=some B/\gq P w D ι B row/\D2 B.b):∀(n:Nat) (a:AV) (u:Value) (r:AV),cq P w D ι a u->fY g n a=some r->cq P w D2 ι2 r u/\(a.cell=true->js P w D2 r u/\r.cell=true):=by
 intro n
 induction n with
 |zero=>intro a u r _ h;rw[fY]at h;simp at h
 |succ n ih=>
  intro a u r hr h
  have both:∀{r:AV},js P w D2 r u->r.cell=true->cq P w D2 ι2 r u/\(a.cell=true->js P w D2 r u/\r.cell=true):=fun h1 h2=>⟨.eF _ _ h1,fun _=>⟨h1,h2⟩⟩
  cases a with
  |map id m=>rw[fY]at h<;>simp_all
  |qx id=>rw[fY]at h<;>simp_all
  |own id off len=>
   rw[fY]at h
   split at h
   ·rename_i row hg
    split at h
    ·rename_i hw
     split at h
     ·rename_i hle
      simp only[Option.map_eq_some_iff]at h
      obtain⟨rows,nY,rfl⟩:=h
      obtain⟨B,hB,R,MJ⟩:=wH id row hg hw
      obtain⟨o,cap,B',rfl,dr,h1,h2,h3,h4,hk⟩:=iG hr
      rw[hB]at dr;injection dr with dr;subst dr
      replace R:=R.row hk
      obtain⟨l1,l2⟩:=sL nY
      have hlen:rows.length=len:=by rw[l1];simp;omega
      by_cases h0:rows=[]
      ·subst h0
       simp at hlen;subst hlen
       exact both (.z8 _ _ h4) rfl
      ·have hlp:0<len:=by rw[<-hlen];exact List.length_pos_iff.2 h0
       have ho:o=off*B.sz:=by rcases h2 with h2|h2<;>omega
       have src:∀i cs,rows[i]? =some cs->∃c0,row.rows[off+i]? =some c0/\dS g n c0=some cs:=fun i cs hi=>by
        obtain⟨c0,jv,hf⟩:=l2 i cs hi
        rw[List.getElem?_take]at jv
        split at jv
        ·rw[List.getElem?_drop]at jv;exact⟨c0,jv,hf⟩
        ·simp at jv
       have cell:∀i j,i<len->j<row.sz->∃c0 a0 v,row.rows[off+i]? =some c0/\c0[j]? =some a0/\w.cell? ⟨B.b,o+(i*row.sz+j),none⟩=some v/\cq P w D ι a0 v:=fun i j hi hj=>by
        have qi:off+i<row.rows.length:=by omega
        have e1:=List.getElem?_eq_getElem qi
        have Jz:j<row.rows[off+i].length:=by rw[R.len _ (List.getElem_mem qi)];exact hj
        obtain⟨v,hv,lk⟩:=R.at_ _ _ _ _ e1 (List.getElem?_eq_getElem Jz)
        refine⟨_,_,v,e1,List.getElem?_eq_getElem Jz,?_,lk⟩
        rw[ho,R.sz,<-hv]
        congr 2
        rw[Nat.add_mul];omega
       refine both (.sl rows B.b o len cap row.sz (fun i j=>(w.cell? ⟨B.b,o+(i*row.sz+j),none⟩).getD undef) hlen h1 h4 MJ (fun cs dn=>?_) (fun cs dn b hb=>?_) (fun i j hi hj=>?_) (fun i j cs b hi hj=>?_)) rfl
       ·obtain⟨i,hi,rfl⟩:=List.getElem_of_mem dn
        obtain⟨c0,jv,hf⟩:=src i _ (List.getElem?_eq_getElem hi)
        rw[(iK hf).1];exact R.len c0 (List.mem_of_getElem? jv)
       ·obtain⟨i,hi,rfl⟩:=List.getElem_of_mem dn
        obtain⟨c0,jv,hf⟩:=src i _ (List.getElem?_eq_getElem hi)
        obtain⟨j,hj,rfl⟩:=List.getElem_of_mem hb
        obtain⟨a0,kV,HL⟩:=(iK hf).2 j _ (List.getElem?_eq_getElem hj)
        obtain⟨v,_,lk⟩:=R.at_ _ _ _ _ jv kV
        exact((ih _ _ _ lk HL).2 (R.flat c0 (List.mem_of_getElem? jv) a0 (List.mem_of_getElem? kV))).2
       ·obtain⟨c0,a0,v,_,_,hv,_⟩:=cell i j hi hj
        simp only[hv,Option.getD_some]
       ·obtain⟨c0,jv,hf⟩:=src i cs hi
        obtain⟨a0,kV,HL⟩:=(iK hf).2 j b hj
        have ly:i<len:=by rw[<-hlen];exact(List.getElem?_eq_some_iff.1 hi).1
        have gw:j<row.sz:=by rw[<-R.len c0 (List.mem_of_getElem? jv)];exact(List.getElem?_eq_some_iff.1 kV).1
        obtain⟨c1,a1,v,e1,e2,hv,lk⟩:=cell i j ly gw
        rw[jv]at e1;injection e1 with e1;subst e1
        rw[kV]at e2;injection e2 with e2;subst e2
        simp only[hv,Option.getD_some]
        exact((ih _ _ _ lk HL).2 (R.flat c0 (List.mem_of_getElem? jv) a0 (List.mem_of_getElem? kV))).1
     ·simp at h
    ·simp at h
   ·simp at h
  |ptr id i off=>
   rw[fY]at h
   split at h
   ·rename_i row hg
    split at h
    ·rename_i hw
     split at h
     ·rename_i c0 jv
      simp only[Option.map_eq_some_iff]at h
      obtain⟨cs,dn,rfl⟩:=h
      obtain⟨B,hB,R,MJ⟩:=wH id row hg hw
      obtain⟨B',rfl,dr,hk⟩:=ir hr
      rw[hB]at dr;injection dr with dr;subst dr
      replace R:=R.row hk
      obtain⟨l1,l2⟩:=iK dn
      have at_:∀j b,cs[j]? =some b->∃a0 v,w.cell? ⟨B.b,i*B.sz+off+j,none⟩=some v/\cq P w D ι a0 v/\a0.cell=true/\fY g n a0=some b:=fun j b hj=>by
       obtain⟨a0,kV,hf⟩:=l2 j b hj
       rw[List.getElem?_drop]at kV
       obtain⟨v,hv,lk⟩:=R.at_ _ _ _ _ jv kV
       refine⟨a0,v,?_,lk,R.flat c0 (List.mem_of_getElem? jv) a0 (List.mem_of_getElem? kV),hf⟩
       rw[R.sz,Nat.add_assoc];exact hv
      refine both (.cr cs B.b _ (fun j=>(w.cell? ⟨B.b,i*B.sz+off+j,none⟩).getD undef) MJ (fun b hb=>?_) (fun j hj=>?_) (fun j b hj=>?_)) rfl
      ·obtain⟨j,hj,rfl⟩:=List.getElem_of_mem hb
       obtain⟨a0,v,_,lk,hc,hf⟩:=at_ j _ (List.getElem?_eq_getElem hj)
       exact((ih _ _ _ lk hf).2 hc).2
      ·obtain⟨a0,v,hv,_⟩:=at_ j _ (List.getElem?_eq_getElem hj)
       simp only[hv,Option.getD_some]
      ·obtain⟨a0,v,hv,lk,hc,hf⟩:=at_ j b hj
       simp only[hv,Option.getD_some]
       exact((ih _ _ _ lk hf).2 hc).1
     ·simp at h
    ·simp at h
   ·simp at h
  |agg cs=>
   rw[fY]at h
   simp only[Option.map_eq_some_iff]at h
   obtain⟨r',nB,rfl⟩:=h
   obtain⟨vs,f,rfl,h1,h2,h3,h4⟩:=iF hr
   obtain⟨l1,l2⟩:=iK nB
   have hI:js P w D2 (.agg r') (.agg vs):=.agg r' vs f (by rw[h1,l1]) (fun b hb=>by
    obtain⟨j,hj,rfl⟩:=List.getElem_of_mem hb
    obtain⟨a0,kV,hf⟩:=l2 j _ (List.getElem?_eq_getElem hj)
    exact((ih _ _ _ (h4 j a0 kV) hf).2 (h2 a0 (List.mem_of_getElem? kV))).2) (fun j hj=>h3 j (by rw[<-l1];exact hj)) (fun j b hj=>by
    obtain⟨a0,kV,hf⟩:=l2 j b hj
    exact((ih _ _ _ (h4 j a0 kV) hf).2 (h2 a0 (List.mem_of_getElem? kV))).1)
   exact⟨.eF _ _ hI,fun hc=>by simp[AV.cell]at hc⟩
  |gx cs=>
   rw[fY]at h
   simp only[Option.map_eq_some_iff]at h
   obtain⟨r',nB,rfl⟩:=h
   obtain⟨vs,f,rfl,h1,h3,h4⟩:=tT hr
   obtain⟨l1,l2⟩:=iK nB
   exact⟨.gx r' vs f (by rw[h1,l1]) (fun j hj=>h3 j (by rw[<-l1];exact hj)) (fun j b hj=>by
    obtain⟨a0,kV,hf⟩:=l2 j b hj
    exact(ih _ _ _ (h4 j a0 kV) hf).1),fun hc=>by simp[AV.cell]at hc⟩
  |fn f cz=>rw[fY]at h<;>(try simp at h)<;>(try(intros;simp_all))
  |int k m=>rw[fY]at h<;>(try simp at h)<;>(try subst h)<;>(try(rw[dp hr];exact⟨.eF _ _ (.int _ _),fun _=>⟨.int _ _,rfl⟩⟩))<;>(try(intros;simp_all))
  |bool b=>rw[fY]at h<;>(try simp at h)<;>(try subst h)<;>(try(rw[eX hr];exact⟨.eF _ _ (.bool _),fun _=>⟨.bool _,rfl⟩⟩))<;>(try(intros;simp_all))
  |str b=>rw[fY]at h<;>(try simp at h)<;>(try subst h)<;>(try(rw[fq hr];exact⟨.eF _ _ (.str _),fun _=>⟨.str _,rfl⟩⟩))<;>(try(intros;simp_all))
  |cj=>rw[fY]at h<;>(try simp at h)<;>(try subst h)<;>(try(rw[jT hr];exact⟨.eF _ _ .cj,fun _=>⟨.cj,rfl⟩⟩))<;>(try(intros;simp_all))
  |iM=>rw[fY]at h<;>(try simp at h)<;>(try subst h)<;>(try(rw[vM hr];exact⟨.eF _ _ .iM,fun _=>⟨.iM,rfl⟩⟩))<;>(try(intros;simp_all))
  |iX=>rw[fY]at h<;>(try simp at h)<;>(try subst h)<;>(try(rw[Bt hr];exact⟨.eF _ _ .iX,fun _=>⟨.iX,rfl⟩⟩))<;>(try(intros;simp_all))
  |sV f cz=>rw[fY]at h<;>(try simp at h)<;>(try(intros;simp_all))
  |gj=>rw[fY]at h<;>(try simp at h)<;>(try subst h)<;>(try(cases hr with|eF _ _ hr=>cases hr;exact both .gj rfl))<;>(try(intros;simp_all))
  |sl rows=>rw[fY]at h<;>(try simp at h)<;>(try(intros;simp_all))
  |cr cs=>rw[fY]at h<;>(try simp at h)<;>(try(intros;simp_all))
end
end Go.Proofs.YtgoelphibofcmaaGreat.V

namespace Go.Proofs.YtgoelphibofcmaaGreat.V
open Go.RowKit
variable {P:Program} {w w':World} {D D':Nat->Prop} {ι ι':Names}
section
variable {g:Rows} {hs:Nat} {env:Env} {a:Act} {o:Oper} {id:Id} {v:AV}
theorem fU.Gt (S:fU P hs D ι g w) {i:Id} {r r':Row} {B:rz} {ob:Obj} (hid:g i=some r) (hw:r.w=true) (hB:ι i=some B)
  (hR:(∀a v,cq P w D ι a v->cq P {w with heap:=w.heap.setIfInBounds B.b ob} D ι a v)->(w.heap.setIfInBounds B.b ob)[B.b]? =some ob->gq P {w with heap:=w.heap.setIfInBounds B.b ob} D ι B r'):
  fU P hs D ι (bB g i r') {w with heap:=w.heap.setIfInBounds B.b ob}/\Step hs D ι w D ι {w with heap:=w.heap.setIfInBounds B.b ob}:=by
 obtain⟨B0,AF,R,jA,oI⟩:=S.row i r hid
 rw[hB]at AF;injection AF with AF;subst AF
 have other:∀b,b≠B.b->(w.heap.setIfInBounds B.b ob)[b]? =w.heap[b]? :=fun b hb=>by simp[Ne.symm hb]
 have hd:∀b,D b->(w.heap.setIfInBounds B.b ob)[b]? =w.heap[b]? :=fun b hb=>other b (by rintro rfl;exact oI hw hb)
 have hr:∀a v,cq P w D ι a v->cq P {w with heap:=w.heap.setIfInBounds B.b ob} D ι a v:=fun a v h=>h.frame hd (fun _ h=>h) (fun _ _ h=>h)
 refine⟨⟨by simpa using S.lo,fun b hb=>by simpa using S.dead b hb,fun j q h=>?_,fun j j' q q' C C' h h' HY hC th he=>?_⟩,⟨⟨rfl,rfl,rfl,by simp,fun k hk=>other k (by have:=jA hw;omega)⟩,hd,fun _ h=>h,fun _ _ h=>h,fun _ h=>.inl h⟩⟩
 ·unfold bB at h
  split at h
  ·rename_i e
   subst e
   injection h with h;subst h
   exact⟨B,hB,hR hr (by simp[R.lt]),fun _=>jA hw,fun _=>oI hw⟩
  ·rename_i e
   obtain⟨C,hC,RC,k1,k2⟩:=S.row j q h
   refine⟨C,hC,RC.frame (other C.b (fun Ly=>e ?_)) hr,k1,k2⟩
   exact(S.inj i j r q B C hid h hw hB hC Ly.symm).symm
 ·unfold bB at h h'
  have get:∀j p,(if j=i then some r' else g j)=some p->∃p0,g j=some p0/\(p.w=true->p0.w=true):=fun j p hp=>by
   split at hp
   ·rename_i e;subst e;injection hp with hp;subst hp;exact⟨r,hid,fun _=>hw⟩
   ·exact⟨p,hp,fun h=>h⟩
  obtain⟨p,hp,OJ⟩:=get _ _ h
  obtain⟨p',Ng,_⟩:=get _ _ h'
  exact S.inj j j' p p' C C' hp Ng (OJ HY) hC th he
theorem Ea {s:TS} {x y:AV} {u v:Value} (he:gr s x y=some true) (hx:cq P w D ι x u) (hy:cq P w D ι y v):u=v/\∀n,Instr.sameBits n u v=true:=by
 unfold gr at he
 split at he
 ·split at he
  ·rename_i hk
   subst hk
   simp at he;subst he
   rw[dp hx,dp hy]
   exact⟨rfl,fun n=>by cases n<;>simp[Instr.sameBits]⟩
  ·cases he
 ·simp at he;subst he
  rw[eX hx,eX hy]
  exact⟨rfl,fun n=>by cases n<;>simp[Instr.sameBits]⟩
 ·simp at he;subst he
  rw[fq hx,fq hy]
  exact⟨rfl,fun n=>by cases n<;>simp[Instr.sameBits,Ha]⟩
 ·cases he
theorem Av {n:Nat}:∀{ts:List TS} {xs ys:List AV} {vs us:List Value},e8 ts xs ys=some true->vs.length=xs.length->us.length=ys.length->(∀(j:Nat) (a:AV),xs[j]? =some a->∃u,vs[j]? =some u/\cq P w D ι a u)->(∀(j:Nat) (a:AV),ys[j]? =some a->∃u,us[j]? =some u/\cq P w D ι a u)->
  us.length=vs.length/\(us.zip vs).all (fun p=>Instr.sameBits n p.1 p.2)=true
 |[],[],[],vs,us,_,h1,h2,_,_=>by
  cases vs<;>cases us<;>simp_all
 |[],x::xs,ys,vs,us,h,_,_,_,_=>by simp[e8]at h
 |[],[],y::ys,vs,us,h,_,_,_,_=>by simp[e8]at h
 |t::ts,[],ys,vs,us,h,_,_,_,_=>by simp[e8]at h
 |t::ts,x::xs,[],vs,us,h,_,_,_,_=>by simp[e8]at h
 |t::ts,x::xs,y::ys,[],us,h,h1,_,_,_=>by simp at h1
 |t::ts,x::xs,y::ys,v::vs,[],h,_,h2,_,_=>by simp at h2
 |t::ts,x::xs,y::ys,v::vs,u::us,h,h1,h2,hx,hy=>by
  unfold e8 at h
  split at h
  ·rename_i a b ha hb
   simp only[Option.some.injEq,Bool.and_eq_true]at h
   obtain⟨rfl,rfl⟩:=h
   obtain⟨v',nw,rv⟩:=hx 0 x rfl
   obtain⟨u',Er,ru⟩:=hy 0 y rfl
   simp at nw Er;subst nw;subst Er
   obtain⟨e1,e2⟩:=Ea ha rv ru
   obtain⟨q1,q2⟩:=Av (n:=n) hb (by simpa using h1) (by simpa using h2) (fun j a hj=>by simpa using hx (j+1) a (by simpa using hj)) (fun j a hj=>by simpa using hy (j+1) a (by simpa using hj))
   refine⟨by simp[q1],?_⟩
   simp only[List.zip_cons_cons,List.all_cons,q2,Bool.and_true]
   rw[<-e1]
   have:=e2 n
   rw[<-e1]at this
   exact this
  ·cases h
theorem Bi {m:MK} {key:List AV}:∀{rows:List (List AV)} {i j:Nat},fN m key rows i=some (some j)->∃cs,i<=j/\rows[j-i]? =some cs/\e8 m.ts key (cs.take m.ks)=some true
 |[],i,j,h=>by simp[fN]at h
 |cs::rows,i,j,h=>by
  unfold fN at h
  split at h
  ·rename_i hq
   simp at h;subst h
   exact⟨cs,Nat.le_refl _,by simp,hq⟩
  ·obtain⟨c,h1,h2,h3⟩:=Bi h
   exact⟨c,by omega,by rw[show j-i=(j-(i+1))+1 by omega];simpa using h2,h3⟩
  ·cases h
theorem vg {m:MK} {k:AV} {rows:List (List AV)} {fi:Option Nat} (h:fE m k rows=some fi):k.isAgg=m.ka/\k.cells.length=m.ks/\(k.cells.all AV.cell=true)/\fN m k.cells rows 0=some fi:=by
 unfold fE at h
 split at h
 ·rename_i hc;exact⟨hc.1,hc.2.1,hc.2.2,h⟩
 ·cases h
theorem Iy {m:MK} {k y:AV} (h1:k.isAgg=m.ka) (h2:k.cells.length=m.ks):part m.ka m.ks (k.cells++[y])=some k/\(k.cells++[y])[m.ks]? =some y:=by
 refine⟨?_,by rw[List.getElem?_append_right (by omega),h2,Nat.sub_self];rfl⟩
 cases hk:m.ka with
 |false=>
  rw[hk]at h1
  rw[uu h1];rfl
 |true=>
  rw[hk]at h1
  cases k<;>simp[AV.isAgg]at h1
  rename_i cs
  simp only[AV.cells]at h2 ⊢
  simp only[part,if_true]
  rw[if_pos (by simp;omega),<-h2,List.take_left']
  rfl
theorem stays {k:TypeId} {m:MK} (hK:DT P k m) {key kv:AV} {u xV:Value} {cs:List AV} (h1:key.isAgg=m.ka) (hr:cq P w D ι key u) (hp:part m.ka m.ks cs=some kv) (ho:cq P w D ι kv xV) (he:e8 m.ts key.cells (cs.take m.ks)=some true):(Instr.keyThatStays xV u).run P w=.ok u w:=by
 have hs:Instr.sameBits 10000 xV u=true:=by
  rcases hK with⟨s,rfl,hs⟩|⟨fs,ts,rfl,qD,wT,dc,dF⟩
  ·rw[uu h1]at he
   cases cs with
   |nil=>simp[part]at hp
   |cons c l=>
    simp[part]at hp;subst hp
    simp only[MK.ks,List.length_cons,List.length_nil,Nat.zero_add,List.take_succ_cons,List.take_zero,e8]at he
    cases hq:gr s key c with
    |none=>rw[hq]at he;simp at he
    |some b=>
     rw[hq]at he;simp at he;subst he
     obtain⟨e1,e2⟩:=Ea hq hr ho
     rw[<-e1]
     have:=e2 10000
     rwa [<-e1]at this
  ·cases key<;>simp[AV.isAgg]at h1
   rename_i ks
   simp only[part,if_true]at hp
   split at hp
   ·simp only[Option.some.injEq]at hp;subst hp
    obtain⟨vs,rfl,n1,r1⟩:=qR hr
    obtain⟨us,rfl,n2,r2⟩:=qR ho
    obtain⟨q1,q2⟩:=Av (n:=9999) (vs:=vs.toList) (us:=us.toList) he (by simpa[AV.cells]using n1) (by simpa using n2) (fun j a hj=>by simpa using r1 j a hj) (fun j a hj=>by simpa using r2 j a hj)
    simp only[Instr.sameBits,Bool.and_eq_true,beq_iff_eq]
    exact⟨by simpa using q1,q2⟩
   ·cases hp
 simp[Instr.keyThatStays,hs]
theorem IS {es:Array MapEntry} {clock:Nat} (h:JM es clock) (k v:Value):JM (es.push ⟨k,v,clock⟩) (clock+1):=by
 refine⟨fun x hx=>?_,?_⟩
 ·simp only[Array.toList_push,List.mem_append,List.mem_singleton]at hx
  rcases hx with hx|rfl
  ·have:=h.1 x hx;omega
  ·exact Nat.lt_succ_self _
 ·simp only[Array.toList_push,List.map_append,List.map_cons,List.map_nil]
  refine List.nodup_append.2 ⟨h.2,by simp,fun a ha b hb=>?_⟩
  obtain⟨x,hx,rfl⟩:=List.mem_map.1 ha
  simp at hb;subst hb
  have:=h.1 x hx;omega
theorem Dz {es:Array MapEntry} {clock:Nat} (h:JM es clock) (j:Nat) (k v:Value):JM (es.modify j fun e=>{e with key:=k,val:=v}) clock:=by
 have e:(es.modify j fun e=>{e with key:=k,val:=v}).toList.map (·.born)=es.toList.map (·.born):=by
  refine List.ext_getElem? fun i=>?_
  simp only[List.getElem?_map,Array.getElem?_toList,Array.getElem?_modify]
  split
  ·cases es[i]? <;>rfl
  ·rfl
 refine⟨fun x hx=>?_,by rw[e];exact h.2⟩
 have hb:x.born∈(es.modify j fun e=>{e with key:=k,val:=v}).toList.map (·.born):=List.mem_map_of_mem hx
 rw[e]at hb
 obtain⟨y,hy,hyb⟩:=List.mem_map.1 hb
 rw[<-hyb];exact h.1 y hy
theorem Gg {es:Array MapEntry} {clock:Nat} (h:JM es clock) {j:Nat} (hj:j<es.size):JM (es.eraseIdxIfInBounds j) clock:=by
 have e:(es.eraseIdxIfInBounds j).toList=es.toList.eraseIdx j:=by
  unfold Array.eraseIdxIfInBounds
  rw[dif_pos hj,Array.toList_eraseIdx]
 refine⟨fun x hx=>h.1 x ((List.eraseIdx_sublist _ _).subset (by rwa [e]at hx)),?_⟩
 rw[e]
 exact((List.eraseIdx_sublist es.toList j).map (·.born)).nodup h.2
theorem Az {k y:AV} (h1:k.cells.all AV.cell=true) (h2:y.cell=true):∀a∈k.cells++[y],a.cell=true:=fun a ha=>by
 rcases List.mem_append.1 ha with ha|ha
 ·exact List.all_eq_true.1 h1 a ha
 ·rw[List.mem_singleton.1 ha];exact h2
theorem Mw {t:TypeId} {x k y:Operand} {m:MK} {z:K} {x' k' y':O} {g':Rows} (S:fU P hs D ι g w) (E:bD P w D ι env a) (ho:o.op=.mapUpdate t x k y∨o.op=.insert t x k y) (hc:rJ P t=some (m,z)) (hx:cO P x=some x') (hk:cO P k=some k') (hy:cO P y=some y')
  (hv:bG (.set m) [cE env x',cE env k',cE env y'] g=some g'):B4 P hs a o w D ι id .undef g':=by
 obtain⟨kt,e,i,zv,ht,hi,uS,Rh,hK⟩:=qu hc
 simp only[bG,Option.bind_eq_some_iff]at hv
 obtain⟨p,hp,fi,HM,hv⟩:=hv
 split at hv
 ·rename_i hcond
  obtain⟨hw,hyc,_⟩:=hcond
  simp only[Option.some.injEq]at hv;subst hv
  obtain⟨B,hu,hg,hB,tG,es,clock,hb,e9,hlen,hM⟩:=zd S (cJ E hx) hp
  have rk:=cJ E hk
  have ry:=cJ E hy
  obtain⟨Jv,res,hf,hF⟩:=uC (B:=B) hK rk e9 hM HM
  obtain⟨k1,k2,k3,k4⟩:=vg HM
  obtain⟨B',dr,R,_⟩:=S.row p.1 p.2 hg
  rw[hB]at dr;injection dr with dr;subst dr
  obtain⟨pk1,pk2⟩:=Iy (y:=cE env y') k1 k2
  have gF:(getObj B.b).run P w=.ok (.map es clock) w:=MapKept.run_getObj_map hb
  rcases hF with⟨rfl,rfl⟩|⟨j,en,rfl,he,rfl⟩
  ·have nv:=S.Gt (ob:=.map (es.push ⟨a.eval k,a.eval y,clock⟩) (clock+1)) (r':={p.2 with rows:=dX p.2.rows ((cE env k').cells++[cE env y']) none}) hg hw hB fun hr j0=>⟨R.sz,fun cs dn=>?_,fun wz=>(by rw[tG]at wz;cases wz),fun m' AO=>?_,fun c hc=>(by rw[tG]at hc;cases hc)⟩
   ·refine⟨undef,_,ι,.inr ⟨?_,rfl⟩,nv.2,nv.1,cq.undef,fun _ _=>rfl⟩
    rcases ho with ho|ho<;>
    ·simp only[execOp,ho,Instr.mapUpdate,hu,Sem.run_bind,run_underlying ht,Result.andThen_ok,gF,Jv,hf,MapKept.run_setObj_map _ hb,Sem.run_pure]
   ·rcases List.mem_append.1 dn with h|h
    ·exact R.flat cs h
    ·rw[List.mem_singleton.1 h];exact Az k3 hyc
   ·rw[tG]at AO;simp only[Option.some.injEq,BK.map.injEq]at AO;subst AO
    refine⟨(R.map m tG).1,_,_,j0,by simp[dX,e9],⟨fun cs dn=>?_,IS hlen.2 _ _⟩,fun q cs hq=>?_⟩
    ·rcases List.mem_append.1 dn with h|h
     ·exact hlen.1 cs h
     ·rw[List.mem_singleton.1 h];simp[k2]
    ·rcases Nat.lt_or_ge q p.2.rows.length with dz|oH
     ·simp only[dX]at hq
      rw[List.getElem?_append_left dz]at hq
      obtain⟨en,kv,vv,q1,q2,q3,q4,q5⟩:=hM q cs hq
      exact⟨en,kv,vv,by rw[Array.getElem?_push_lt (by omega)];rw[Array.getElem?_eq_getElem (by omega)]at q1;simpa using q1,q2,q3,hr _ _ q4,hr _ _ q5⟩
     ·simp only[dX]at hq
      rw[List.getElem?_append_right oH]at hq
      have LI:q=p.2.rows.length:=by
       have:=(List.getElem?_eq_some_iff.1 hq).1
       simp at this;omega
      subst LI
      simp at hq;subst hq
      exact⟨⟨a.eval k,a.eval y,clock⟩,_,_,by rw[<-e9];simp,pk1,pk2,hr _ _ rk,hr _ _ ry⟩
  ·simp only[Nat.zero_add]at k4 HM hf ⊢
   obtain⟨Ox,_,J4,heq⟩:=Bi k4
   simp only[Nat.sub_zero]at J4
   obtain⟨Pd,kv,vv,q1,q2,_,q4,_⟩:=hM j Ox J4
   have LB:Pd=en:=by
    have h1:es.toList[j]? =some Pd:=by simpa using q1
    rw[he]at h1;injection h1 with h1;exact h1.symm
   subst LB
   have dc:=stays (w:=w) hK k1 rk q2 q4 heq
   have nv:=S.Gt (ob:=.map (es.modify j fun e=>{e with key:=a.eval k,val:=a.eval y}) clock) (r':={p.2 with rows:=dX p.2.rows ((cE env k').cells++[cE env y']) (some j)}) hg hw hB fun hr j0=>⟨R.sz,fun cs dn=>?_,fun wz=>(by rw[tG]at wz;cases wz),fun m' AO=>?_,fun c hc=>(by rw[tG]at hc;cases hc)⟩
   ·refine⟨undef,_,ι,.inr ⟨?_,rfl⟩,nv.2,nv.1,cq.undef,fun _ _=>rfl⟩
    rcases ho with ho|ho<;>
    ·simp only[execOp,ho,Instr.mapUpdate,hu,Sem.run_bind,run_underlying ht,Result.andThen_ok,gF,Jv,hf,q1,Option.map_some,Option.getD_some,dc,MapKept.run_setObj_map _ hb,Sem.run_pure]
   ·rcases List.mem_or_eq_of_mem_set dn with h|h
    ·exact R.flat cs h
    ·rw[h];exact Az k3 hyc
   ·rw[tG]at AO;simp only[Option.some.injEq,BK.map.injEq]at AO;subst AO
    have gw:=(List.getElem?_eq_some_iff.1 J4).1
    refine⟨(R.map m tG).1,_,_,j0,by simp[dX,e9],⟨fun cs dn=>?_,Dz hlen.2 _ _ _⟩,fun q cs hq=>?_⟩
    ·rcases List.mem_or_eq_of_mem_set dn with h|h
     ·exact hlen.1 cs h
     ·rw[h];simp[k2]
    ·simp only[dX,List.getElem?_set]at hq
     split at hq
     ·rename_i OC
      subst OC
      (try rw[if_pos gw]at hq)
      injection hq with hq;subst hq
      exact⟨{Pd with key:=a.eval k,val:=a.eval y},_,_,by rw[Array.getElem?_modify];simp[q1],pk1,pk2,hr _ _ rk,hr _ _ ry⟩
     ·rename_i OC
      obtain⟨en,kv,vv,q1,q2,q3,q4,q5⟩:=hM q cs hq
      exact⟨en,kv,vv,by rw[Array.getElem?_modify];simp[OC,q1],q2,q3,hr _ _ q4,hr _ _ q5⟩
 ·cases hv
theorem Mv {t t':TypeId} {x k:Operand} {m:MK} {z:K} {x' k':O} {g':Rows} (S:fU P hs D ι g w) (E:bD P w D ι env a) (ho:o.op=.call {callee:=.builtin .delete,args:= #[x,k],argTypes:= #[t,t']}) (hc:rJ P t=some (m,z)) (hx:cO P x=some x') (hk:cO P k=some k')
  (hv:bG (.del m) [cE env x',cE env k'] g=some g'):B4 P hs a o w D ι id .undef g':=by
 obtain⟨kt,e,i,zv,ht,hi,uS,Rh,hK⟩:=qu hc
 simp only[bG,Option.bind_eq_some_iff]at hv
 obtain⟨p,hp,fi,HM,hv⟩:=hv
 split at hv
 ·rename_i hw
  simp only[Option.some.injEq]at hv;subst hv
  obtain⟨B,hu,hg,hB,tG,es,clock,hb,e9,hlen,hM⟩:=zd S (cJ E hx) hp
  have rk:=cJ E hk
  obtain⟨Jv,res,hf,hF⟩:=uC (B:=B) hK rk e9 hM HM
  obtain⟨k1,k2,k3,k4⟩:=vg HM
  obtain⟨B',dr,R,_⟩:=S.row p.1 p.2 hg
  rw[hB]at dr;injection dr with dr;subst dr
  have gF:(getObj B.b).run P w=.ok (.map es clock) w:=MapKept.run_getObj_map hb
  have go:∀ob,(Builtin.delete_ #[t,t'] o.type #[a.eval x,a.eval k]).run P w=.ok (.tuple #[]) {w with heap:=w.heap.setIfInBounds B.b ob}->(execOp a.eval o).run P w=.ok (.value undef) {w with heap:=w.heap.setIfInBounds B.b ob}:=fun ob h=>by
   simp only[execOp,ho,resolve,Sem.run_bind,Sem.run_pure,Result.andThen_ok,invoke,builtin,Array.map]
   simp[h,undef]
  rcases hF with⟨rfl,rfl⟩|⟨j,en,rfl,he,rfl⟩
  ·have nv:=S.Gt (ob:=.map es clock) (r':={p.2 with rows:=dY p.2.rows none}) hg hw hB fun hr j0=>⟨R.sz,R.flat,fun wz=>(by rw[tG]at wz;cases wz),fun m' AO=>?_,fun c hc=>(by rw[tG]at hc;cases hc)⟩
   ·refine⟨undef,_,ι,.inl (go _ ?_),nv.2,nv.1,cq.undef,fun _ _=>rfl⟩
    simp[Builtin.delete_,hu,run_underlying ht,gF,Jv,hf,MapKept.run_setObj_map _ hb]
   ·rw[tG]at AO;simp only[Option.some.injEq,BK.map.injEq]at AO;subst AO
    exact⟨(R.map m tG).1,_,_,j0,e9,hlen,fun q cs hq=>by
     obtain⟨en,kv,vv,q1,q2,q3,q4,q5⟩:=hM q cs hq
     exact⟨en,kv,vv,q1,q2,q3,hr _ _ q4,hr _ _ q5⟩⟩
  ·simp only[Nat.zero_add]at hf ⊢
   have gw:j<es.size:=by have:=(List.getElem?_eq_some_iff.1 he).1;simpa using this
   have nv:=S.Gt (ob:=.map (es.eraseIdxIfInBounds j) clock) (r':={p.2 with rows:=dY p.2.rows (some j)}) hg hw hB fun hr j0=>⟨R.sz,fun cs dn=>R.flat cs (List.mem_of_mem_eraseIdx dn),fun wz=>(by rw[tG]at wz;cases wz),fun m' AO=>?_,fun c hc=>(by rw[tG]at hc;cases hc)⟩
   ·refine⟨undef,_,ι,.inl (go _ ?_),nv.2,nv.1,cq.undef,fun _ _=>rfl⟩
    simp[Builtin.delete_,hu,run_underlying ht,gF,Jv,hf,MapKept.run_setObj_map _ hb]
   ·rw[tG]at AO;simp only[Option.some.injEq,BK.map.injEq]at AO;subst AO
    have PD:∀q,(es.eraseIdxIfInBounds j)[q]? =(es.toList.eraseIdx j)[q]? :=fun q=>by
     unfold Array.eraseIdxIfInBounds
     rw[dif_pos gw,<-Array.getElem?_toList,Array.toList_eraseIdx]
    refine⟨(R.map m tG).1,_,_,j0,by simp[dY,Array.eraseIdxIfInBounds,gw,List.length_eraseIdx,<-e9],⟨fun cs dn=>hlen.1 cs (List.mem_of_mem_eraseIdx dn),Gg hlen.2 gw⟩,fun q cs hq=>?_⟩
    simp only[dY,List.getElem?_eraseIdx]at hq
    split at hq
    ·rename_i dz
     obtain⟨en,kv,vv,q1,q2,q3,q4,q5⟩:=hM q cs hq
     exact⟨en,kv,vv,by rw[PD,List.getElem?_eraseIdx,if_pos dz];simpa using q1,q2,q3,hr _ _ q4,hr _ _ q5⟩
    ·rename_i dz
     obtain⟨en,kv,vv,q1,q2,q3,q4,q5⟩:=hM (q+1) cs hq
     exact⟨en,kv,vv,by rw[PD,List.getElem?_eraseIdx,if_neg dz];simpa using q1,q2,q3,hr _ _ q4,hr _ _ q5⟩
 ·cases hv
end
end Go.Proofs.YtgoelphibofcmaaGreat.V
