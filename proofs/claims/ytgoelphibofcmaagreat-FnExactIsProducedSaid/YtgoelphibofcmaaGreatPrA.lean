/- A small language in which the program's functions are read by value: its values, its operations, its code, and how the program's code is brought into it. -/
import Derived.WalkKit
import Derived.WalkSpells
import Derived.WalkLawsBesides
import Derived.Lib.Hide
import Derived.Great.BuildSlice
import Derived.Conc.LoneCalls
import Derived.MapKept
import Derived.WideKeyRuns
set_option linter.unusedVariables false
set_option linter.unusedSimpArgs false
set_option maxRecDepth 100000
set_option maxHeartbeats 16000000
namespace Go.Proofs.YtgoelphibofcmaaGreat.V
open Go.RowKit
structure Id where
  site:Nat
  bQ:Nat
  deriving DecidableEq,Repr
inductive TS where
  |tI|tB|tS
  deriving Repr,DecidableEq
structure MK where
  ka:Bool
  ts:List TS
  deriving Repr,DecidableEq
inductive AV where
  |int (k:IntKind) (n:Int)
  |bool (b:Bool)
  |str (s:ByteArray)
  |b4|gD|iD
  |sl (rows:List (List AV))
  |own (id:Id) (off len:Nat)
  |ptr (id:Id) (i off:Nat)
  |cI (cs:List AV)
  |agg (cs:List AV)
  |gn (vs:List AV)
  |fn (f:Nat) (cC:List AV)
  |map (id:Id) (m:MK)
  |iQ
  |sC (f:Nat) (first:List AV)
  |p7 (id:Id)
  deriving Inhabited
def AV.undef:AV:=.gn []
def AV.cell:AV->Bool
  | .agg _| .gn _=>false
  |_=>true
def AV.cells:AV->List AV
  | .agg cs=>cs
  |v=>[v]
inductive K where
  |int (k:IntKind) (n:Int)
  |bool (b:Bool)
  |str (l:List UInt8)
  |b4|gD|iD|iQ
  deriving Repr,DecidableEq
def K.val:K->Value
  | .int k n=>.int k n
  | .bool b=>.bool b
  | .str l=>.string ⟨l.toArray⟩
  | .b4=>.slice none 0 0
  | .gD=>.pointer none
  | .iD=>.nilFunc
  | .iQ=>.map none
def K.av:K->AV
  | .int k n=>.int k n
  | .bool b=>.bool b
  | .str l=>.str ⟨l.toArray⟩
  | .b4=>.b4
  | .gD=>.gD
  | .iD=>.iD
  | .iQ=>.iQ
def EN:Value->Option K
  | .int k n=>some (.int k n)
  | .bool b=>some (.bool b)
  | .string s=>some (.str s.data.toList)
  | .slice none 0 0=>some .b4
  | .pointer none=>some .gD
  | .nilFunc=>some .iD
  | .map none=>some .iQ
  |_=>none
inductive O where
  |t (n:Nat)
  |k (c:K)
  |ka (cs:List K)
  |f (n:Nat)
  deriving Repr,DecidableEq
inductive MQ where
  |new (m:MK)
  |look (m:MK) (ok:Bool) (zero:K)
  |len (m:MK)
  deriving Repr,DecidableEq
inductive MW where
  |set (m:MK)
  |del (m:MK)
  deriving Repr,DecidableEq
inductive fX where
  |dc (x:O)
  |pick (c a b:O)
  |new (zero:List K)
  |box (x:O)
  |build (zero:List K) (parts:List (Nat×Nat×O))
  |lf (sz len:Nat) (parts:List O)
  |load (agg:Bool) (n:Nat) (a:O)
  |store (n:Nat) (a x:O)
  |zf (x:O)
  |bin (op:BinOp) (k:IntKind) (x y:O)
  |sh (left:Bool) (x y:O)
  |I8 (op:BinOp) (x y:O)
  |Ly (neg:Bool) (t:TS) (x y:O)
  |PT (neg:Bool) (ts:List TS) (x y:O)
  |N6 (neg JK:Bool) (x:O)
  |PU (neg:Bool) (x:O)
  |not (x:O)
  |neg (x:O)
  |conv (k:IntKind) (x:O)
  |C9 (x:O)
  |slice (sz:Nat) (x:O) (lo hi:Option O)
  |yR (x:O) (lo hi:Option O)
  |fB (off:Nat) (x:O)
  |field (agg:Bool) (off n:Nat) (x:O)
  |dw (sz:Nat) (x i:O)
  |JF (len sz:Nat) (x i:O)
  |JH (x i:O)
  |dZ (agg:Bool) (len n:Nat) (x i:O)
  |extract (i:Nat) (x:O)
  |len (x:O)
  |JN (x:O)
  |append (sz:Nat) (x y:O)
  |copy (sz:Nat) (x y:O)
  |clear (zero:List K) (x:O)
  |JR (f:Nat) (cC:List O)
  |JS (f:Nat) (first:List O)
  |jC (zero:List K) (len cap:O)
  |call (f:Nat) (args:List O)
  |sa (x:O) (args:List O)
  |mq (q:MQ) (xs:List O)
  |mw (q:MW) (xs:List O)
  |Hv (x:O)
  |Hp (x:O)
  |snd (x y:O)
  |MC (x:O)
  |bad
  deriving Repr,DecidableEq
structure aT where
  dst:Option Nat
  op:fX
  guard:Option (Nat×Bool)
  site:Nat
  hid:List Nat
  deriving Repr,DecidableEq
def q (d:Nat) (op:fX) (s:Nat):aT:=⟨some d,op,none,s,[]⟩
inductive VC where
  |skip
  |ew (draw:Bool) (ops:List aT)
  |seq (a b:VC)
  |cond (c:O) (x y:VC)
  |block (id:Nat) (c:VC)
  |loop (c:VC)
  |exit (id:Nat)
  |ret
  |one (o:aT) (c:VC)
  |both (a b:VC)
  |loc (t s:Nat) (y:O) (c:VC)
  |Ls (ops:List aT)
  deriving Repr,DecidableEq
inductive mE where
  |tmp (t:Nat)
  |cell (agg:Bool) (n:Nat) (t:Nat)
  deriving Repr,DecidableEq
structure ze where
  ntmps:Nat
  xi:Nat
  body:VC
  res:List mE
  deriving Repr,DecidableEq
def fu (P:Program) (f:Nat):Bool:=
  match P.funcs[f]? with
  |some fn=>fn.body.isSome&& !(fn.name== "runtime.NumGoroutine")
  |none=>false
def cO (P:Program):Operand->Option O
  | .tmp t=>some (.t t)
  | .const (.agg cs)=>(cs.toList.mapM EN).map O.ka
  | .const v=>(EN v).map O.k
  | .global _=>none
  | .func f=>if fu P f then some (.f f)else none
def jj (P:Program) (t:TypeId):Option (List K):=
  match P.info? t with
  |some i=>match i.zero with
    |some v=>if v.cells.size=i.size then v.cells.toList.mapM EN else none
    |none=>none
  |none=>none
def dK (P:Program) (t:TypeId):Option Nat:=(P.info? t).map (·.size)
def mL (P:Program) (t:TypeId):Option Bool:=
  match P.underlying t with
  |some (.struct _)|some (.array _ _)=>some true
  |some _=>some false
  |none=>none
inductive QQ where
  |sc (t:TS)|ag (ts:List TS)
  deriving Repr,DecidableEq
def eX (P:Program) (t:TypeId):Option TS:=
  match P.underlying t with
  |some .bool=>some .tB
  |some (.int _)=>some .tI
  |some .string=>some .tS
  |_=>none
def BJ (P:Program) (inner:List Field->Option (List TS)):Nat->List Field->Option (List TS)
  |_,[]=>some []
  |off,f::r=>
    if f.offset=off/\f.name≠ "_" then
      match eX P f.type with
      |some t=>if mL P f.type=some false then(BJ P inner (off+1) r).map (t::·)else none
      |none=>match P.underlying f.type with
        |some (.struct fs)=>if !P.stoodInHeld f.type then match inner fs.toList with
          |some ts=>if dK P f.type=some ts.length/\ts≠[]then(BJ P inner (off+ts.length) r).map (ts++·)else none
          |none=>none else none
        |_=>none
    else none
def ez (P:Program):Nat->Nat->List Field->Option (List TS)
  |0,_,[]=>some []
  |0,_,_::_=>none
  |d+1,off,fs=>BJ P (ez P d 0) off fs
def Q1 (P:Program) (t:TypeId):Option QQ:=
  match eX P t with
  |some s=>some (.sc s)
  |none=>match P.underlying t with
    |some (.struct fs)=>if !P.stoodInHeld t&& !P.eqGuardType P.depth t then(ez P 4 0 fs.toList).map QQ.ag else none
    |_=>none
def qV (P:Program) (fs:Array Field):List (Nat×O)->Option (List (Nat×Nat×O))
  |[]=>some []
  |(i,x)::r=>match fs[i]? with
    |some f=>match dK P f.type with
      |some n=>(qV P fs r).map ((f.offset,n,x)::·)
      |none=>none
    |none=>none
def qZ (P:Program) (ps:Array (Nat×Operand)):Option (List (Nat×O)):=ps.toList.mapM fun(i,x)=>(cO P x).map (i,·)
def pZ (P:Program):Option Operand->Option (Option O)
  |none=>some none
  |some x=>(cO P x).map some
def qW (P:Program) (neg:Bool) (t:TypeId) (x y:Operand):Option fX:=
  match y with
  | .const (.slice none 0 0)=>match P.underlying t with
    |some (.slice _)=>(cO P x).map (fX.N6 neg false)
    |_=>none
  | .const .nilFunc=>match P.underlying t with
    |some (.func ..)=>(cO P x).map (fX.N6 neg true)
    |_=>none
  | .const (.pointer none)=>match P.underlying t with
    |some (.pointer _)=>(cO P x).map (fX.PU neg)
    |_=>none
  |_=>match Q1 P t with
    |some (.sc s)=>do pure (.Ly neg s (<-cO P x) (<-cO P y))
    |some (.ag ts)=>do pure (.PT neg ts (<-cO P x) (<-cO P y))
    |_=>none
def tG (P:Program) (op:BinOp) (t:TypeId) (x y:Operand):Option fX:=
  match op with
  | .eql=>qW P false t x y
  | .neq=>qW P true t x y
  | .shl=>do pure (.sh true (<-cO P x) (<-cO P y))
  | .shr=>do pure (.sh false (<-cO P x) (<-cO P y))
  |op=>match P.underlying t with
    |some (.int k)=>do pure (.bin op k (<-cO P x) (<-cO P y))
    |some .string=>do pure (.I8 op (<-cO P x) (<-cO P y))
    |_=>none
def qY (P:Program) (t:TypeId):Option (MK×K):=
  match P.underlying t with
  |some (.map k e)=>match mL P e,(P.info? e).bind (·.zero),eX P k,P.underlying k with
    |some false,some zv,some s,_=>(EN zv).map fun z=>(⟨false,[s]⟩,z)
    |some false,some zv,none,some (.struct fs)=>match ez P 4 0 fs.toList,EN zv with
      |some ts,some z=>if !P.stoodInHeld k/\fs.toList.all (fun f=>(eX P f.type).isSome)then some (⟨true,ts⟩,z)else none
      |_,_=>none
    |_,_,_,_=>none
  |_=>none
def mo (P:Program) (c:Call):Option fX:=
  match c.callee with
  | .builtin .len=>match c.args.toList,c.argTypes.toList with
    |[x],[t]=>match P.underlying t with
      |some (.slice _)=>(cO P x).map fX.len
      |some .string=>(cO P x).map fX.JN
      |some (.map _ _)=>match qY P t,cO P x with
        |some (m,_),some x=>some (.mq (.len m) [x])
        |_,_=>none
      |some (.chan _ _)=>(cO P x).map fX.Hp
      |_=>none
    |_,_=>none
  | .builtin .append=>match c.args.toList,c.argTypes.toList with
    |[x,y],[t,u]=>match P.underlying t with
      |some (.slice e)=>match dK P e,jj P e,P.info? e with
        |some (sz+1),some _,some i=>if i.bytes<=32768/\t=u then do pure (.append (sz+1) (<-cO P x) (<-cO P y))else none
        |_,_,_=>none
      |_=>none
    |_,_=>none
  | .builtin .clear=>match c.args.toList,c.argTypes.toList with
    |[x],[t]=>match P.underlying t with
      |some (.slice e)=>match dK P e,jj P e with
        |some (_+1),some z=>(cO P x).map (fX.clear z)
        |_,_=>none
      |_=>none
    |_,_=>none
  | .value (.func f)=>if fu P f then(c.args.toList.mapM (cO P)).map (fX.call f)else none
  | .value (.tmp t)=>(c.args.toList.mapM (cO P)).map (fX.sa (.t t))
  | .builtin .delete=>match c.args.toList,c.argTypes.toList with
    |[x,k],[t,_]=>match qY P t,cO P x,cO P k with
      |some (m,_),some x,some k=>some (.mw (.del m) [x,k])
      |_,_,_=>none
    |_,_=>none
  | .builtin .copy=>match c.args.toList,c.argTypes.toList with
    |[x,y],[t,_]=>match P.underlying t with
      |some (.slice e)=>match dK P e with
        |some (sz+1)=>do pure (.copy (sz+1) (<-cO P x) (<-cO P y))
        |_=>none
      |_=>none
    |_,_=>none
  |_=>none
def pM (P:Program) (o:Op):Option fX:=
  match o with
  | .move x| .assign x=>(cO P x).map fX.dc
  | .pick c a b=>do pure (.pick (<-cO P c) (<-cO P a) (<-cO P b))
  | .alloc e=>(jj P e).map fX.new
  | .box _ x=>(cO P x).map fX.box
  | .load t a=>do pure (.load (<-mL P t) (<-dK P t) (<-cO P a))
  | .store t a x=>do pure (.store (<-dK P t) (<-cO P a) (<-cO P x))
  | .nilCheck x=>(cO P x).map fX.zf
  | .binOp op t x y _=>tG P op t x y
  | .unOp .not _ x=>(cO P x).map fX.not
  | .unOp .neg _ x=>(cO P x).map fX.neg
  | .convert s d x=>match P.underlying s,P.underlying d with
    |some (.int _),some (.int k)=>(cO P x).map (fX.conv k)
    |some .string,some .string=>(cO P x).map fX.C9
    |_,_=>none
  | .slice t x lo hi none=>match P.underlying t with
    |some (.slice e)=>do
      pure (.slice (<-dK P e) (<-cO P x) (<-pZ P lo) (<-pZ P hi))
    |some .string=>do pure (.yR (<-cO P x) (<-pZ P lo) (<-pZ P hi))
    |_=>none
  | .fieldAddr s x i=>match P.underlying s with
    |some (.struct fs)=>match fs[i]? with
      |some f=>match dK P f.type with
        |some (_+1)=>(cO P x).map (fX.fB f.offset)
        |_=>none
      |none=>none
    |_=>none
  | .field s x i=>match P.underlying s with
    |some (.struct fs)=>match fs[i]? with
      |some f=>do pure (.field (<-mL P f.type) f.offset (<-dK P f.type) (<-cO P x))
      |none=>none
    |_=>none
  | .indexAddr t x i=>match P.underlying t with
    |some (.slice e)=>match dK P e with
      |some (m+1)=>do pure (.dw (m+1) (<-cO P x) (<-cO P i))
      |_=>none
    |some (.array len e)=>match dK P e with
      |some (m+1)=>do pure (.JF len (m+1) (<-cO P x) (<-cO P i))
      |_=>none
    |_=>none
  | .index t x i=>match P.underlying t with
    |some .string=>do pure (.JH (<-cO P x) (<-cO P i))
    |some (.array len e)=>do pure (.dZ (<-mL P e) len (<-dK P e) (<-cO P x) (<-cO P i))
    |_=>none
  | .extract x i=>(cO P x).map (fX.extract i)
  | .build t ps=>match P.underlying t with
    |some (.struct fs)=>
      match jj P t,qZ P ps with
      |some z,some l=>
        if fs.all (fun f=>(P.info? f.type).isSome)then(qV P fs l).map (fX.build z)else none
      |_,_=>none
    |some (.array _ e)=>
      match jj P t,qZ P ps,dK P e with
      |some z,some l,some n=>some (.build z (l.map fun(i,x)=>(i*n,n,x)))
      |_,_,_=>none
    |_=>none
  | .buildSlice t len ps=>match P.underlying t with
    |some (.slice e)=>match dK P e,jj P e,qZ P ps with
      |some (sz+1),some _,some l=>
        if len*(sz+1)<=4096/\l.map (·.1)=List.range len then some (.lf (sz+1) len (l.map (·.2)))else none
      |_,_,_=>none
    |_=>none
  | .makeFunc (.func f) first cC=>
    if first= #[]/\fu P f then(cC.toList.mapM (cO P)).map (fX.JR f)else if cC= #[]/\fu P f then(first.toList.mapM (cO P)).map (fX.JS f)else none
  | .makeSlice t l c=>match P.underlying t with
    |some (.slice e)=>match dK P e,jj P e,P.info? e with
      |some (_+1),some z,some i=>if i.bytes<=32768 then do pure (.jC z (<-cO P l) (<-cO P c))else none
      |_,_,_=>none
    |_=>none
  | .call c=>mo P c
  | .makeChan t n=>match P.underlying t with
    |some (.chan _ e)=>match P.info? e with
      |some i=>if i.bytes<=32768 then(cO P n).map fX.Hv else none
      |none=>none
    |_=>none
  | .send x y=>do pure (.snd (<-cO P x) (<-cO P y))
  | .recv t x false=>match P.underlying t with
    |some (.chan _ e)=>match (P.info? e).bind (·.zero)with
      |some _=>(cO P x).map fX.MC
      |none=>none
    |_=>none
  | .makeMap t none=>match qY P t with
    |some (m,_)=>some (.mq (.new m) [])
    |none=>none
  | .lookup t x k ok=>match qY P t,cO P x,cO P k with
    |some (m,z),some x,some k=>some (.mq (.look m ok z) [x,k])
    |_,_,_=>none
  | .mapUpdate t x k v| .insert t x k v=>match qY P t,cO P x,cO P k,cO P v with
    |some (m,_),some x,some k,some v=>some (.mw (.set m) [x,k,v])
    |_,_,_,_=>none
  | .makeInterface _ _=>some .bad
  | .panic _=>some .bad
  |_=>none
inductive QP where
  |pure|look|make|write
  deriving DecidableEq,Repr
def fX.cls:fX->QP
  | .new _| .box _| .lf .. | .jC .. | .mq (.new _) _| .Hv _=>.make
  | .load .. | .dw .. | .slice .. | .call .. | .sa .. | .mq .. | .Hp _=>.look
  | .store .. | .append .. | .copy .. | .clear .. | .mw .. | .snd .. | .MC _=>.write
  |_=>.pure
def clash:QP->QP->Bool
  | .pure,_|_,.pure=>false
  | .write,_|_,.write=>true
  |_,_=>false
def je (ops:Array Oper):Array Nat:=Region.before ops
def pE:fX->Bool:=fun o=>o.cls==.make||o.cls==.write
def fX.lg:fX->Bool
  | .call .. | .sa .. =>true
  |_=>false
def Bz (ops:Array Oper) (o:Oper):Option (Option (Nat×Bool)):=
  match o.guard with
  |none=>some none
  |some (i,b)=>match (ops[i]?).bind (·.dst)with
    |some t=>some (some (t,b))
    |none=>none
def j9 (P:Program) (ops:Array Oper) (nt site0:Nat) (draw mk:Bool) (bs:Array Nat) (hidden:List (Nat×Bool)) (j:Nat) (o:Oper):Option aT:=do
  let v <-pM P o.op
  let g <-Bz ops o
  if (o.dst.all fun d=>decide (d<nt))then
    pure {dst:=o.dst,op:=v,guard:=g,site:=site0+j,hid:=if draw then(hidden.filter fun(i,m)=>m&& !(bs.getD j 0).testBit i&&(i !=j||mk&&v.lg)).map fun(i,_)=>site0+i else[]}
  else none
def allM {α:Type} (f:Nat->Oper->Option α):List Oper->Nat->Option (List α)
  |[],_=>some []
  |o::r,j=>do pure ((<-f j o)::(<-allM f r (j+1)))
def gE:O->List Nat
  | .t n=>[n]
  |_=>[]
def uE:Option O->List Nat
  |some x=>gE x
  |none=>[]
def fX.gm:fX->List Nat
  | .clear _ x| .dc x| .box x| .load _ _ x| .zf x| .N6 _ _ x| .PU _ x| .not x| .neg x| .conv _ x| .C9 x| .fB _ x| .field _ _ _ x| .extract _ x| .len x| .JN x| .Hv x| .Hp x| .MC x=>gE x
  | .pick c a b=>gE c++gE a++gE b
  | .new _| .bad=>[]
  | .build _ ps=>ps.flatMap fun(_,_,x)=>gE x
  | .lf _ _ ps=>ps.flatMap gE
  | .store _ a x| .snd a x=>gE a++gE x
  | .bin _ _ x y| .sh _ x y| .I8 _ x y| .Ly _ _ x y| .PT _ _ x y| .dw _ x y| .JF _ _ x y| .JH x y| .dZ _ _ _ x y| .append _ x y| .copy _ x y| .jC _ x y=>gE x++gE y
  | .slice _ x lo hi| .yR x lo hi=>gE x++uE lo++uE hi
  | .JR _ l| .JS _ l| .call _ l| .mq _ l| .mw _ l=>l.flatMap gE
  | .sa x l=>gE x++l.flatMap gE
def aT.gm (v:aT):List Nat:=v.op.gm++(match v.guard with|some (t,_)=>[t]|none=>[])
def rW (x y:aT):Bool:=
  (match x.dst with
   |some d=> !y.gm.contains d&&y.dst !=some d
   |none=>true)&&
  (match y.dst with
   |some d=> !x.gm.contains d
   |none=>true)
def aT.makes (v:aT):Bool:=pE v.op||v.op.lg&&v.hid.contains v.site
def Dh (x y:aT):Bool:=
  rW x y&& !clash x.op.cls y.op.cls&&(!x.makes||y.hid.contains x.site)&&(!y.makes||x.hid.contains y.site)&&x.site !=y.site
def Da (ops:Array Oper):Bool:=ops.toList.zipIdx.all fun(o,j)=>o.after.all fun e=> !Region.binds .any e||decide (e.on<j)
def nz (ops:Array Oper) (vl:List aT) (bs:Array Nat):Bool:=
  Da ops&&vl.zipIdx.all fun(y,j)=>vl.zipIdx.all fun(x,i)=> !(decide (i<j))||(bs.getD j 0).testBit i||Dh x y
def p4 (P:Program) (nt site0:Nat) (ops:Array Oper) (draw mk:Bool):Option (List aT):=
  let bs:=if draw then je ops else #[]
  let hidden:=if draw then ops.toList.zipIdx.map fun(o,i)=>(i,((pM P o.op).map fun v=>pE v||mk&&v.lg).getD false)else[]
  match allM (j9 P ops nt site0 draw mk bs hidden) ops.toList 0 with
  |some vl=>if !draw||nz ops vl bs then some vl else none
  |none=>none
def km (v:aT):Bool:= !v.op.lg&&v.op.cls !=.write
def wN (x y:aT):Bool:=rW x y&&x.op.cls==.pure||Dh x y&&km x&&km y
def pe (ops:Array Oper) (vl:List aT) (bs:Array Nat) (listed:Array Bool) (i:Nat):Bool:=
  match vl[i]? with
  |some x=>(List.range ops.size).all fun j=>listed.getD j false||j==i||(bs.getD j 0).testBit i||(match vl[j]? with|some y=>wN x y|none=>false)
  |none=>false
def KW (vl:List aT) (x:aT):Option (Nat×Nat×O):=
  match x.op,x.guard with
  | .append _ (.t t) y,none=>match vl.find? fun v=>v.dst==some t&&v.op.cls==.make with
    |some v=>some (t,v.site,y)
    |none=>none
  |_,_=>none
def Dg (s:Nat) (x y:aT):Bool:=rW x y&&km y&&y.hid.contains s&&y.hid.contains x.site&&y.site !=s&&y.site !=x.site
def nB (ops:Array Oper) (vl:List aT) (bs:Array Nat) (listed:Array Bool) (i s:Nat):Bool:=
  match vl[i]? with
  |some x=>(List.range ops.size).all fun j=>listed.getD j false||j==i||(bs.getD j 0).testBit i||(match vl[j]? with|some y=>Dg s x y|none=>false)
  |none=>false
def Ms (ops:Array Oper) (vl:List aT) (bs:Array Nat) (listed:Array Bool) (i:Nat):Option (Nat×Nat×Nat×O×aT):=
  match vl[i]? with
  |some x=>match KW vl x with
    |some (t,s,y)=>if nB ops vl bs listed i s then some (i,t,s,y,x)else none
    |none=>none
  |none=>none
def zC:List VC->Option VC
  |[]=>none
  |[c]=>some c
  |c::r=>(zC r).map (VC.both c)
def ve (ops:Array Oper) (vl:List aT) (bs:Array Nat):Nat->Array Bool->Option VC
  |0,listed=>
    match Region.ready .any ops listed with
    |[]=>some (.ew false [])
    |_::_=>none
  |n+1,listed=>
    match Region.ready .any ops listed with
    |[]=>some (.ew false [])
    |r::rs=>let rdy:=r::rs
      match rdy.find? (pe ops vl bs listed)with
      |some i=>match vl[i]? with
        |some vo=>(ve ops vl bs n (listed.setIfInBounds i true)).map (VC.one vo)
        |none=>none
      |none=>match rdy.findSome? (Ms ops vl bs listed)with
        |some (i,t,s,y,vo)=>(ve ops vl bs n (listed.setIfInBounds i true)).map fun c=>VC.loc t s y (.one vo c)
        |none=>match rdy.mapM fun i=>(vl[i]?).bind fun vo=>(ve ops vl bs n (listed.setIfInBounds i true)).map (VC.one vo)with
          |some l=>zC l
          |none=>none
def KU:Op->Bool
  | .send .. | .recv .. =>true
  |_=>false
def NY (P:Program) (nt site0:Nat) (ops:Array Oper) (draw:Bool) (mode:Nat):Option VC:=
  if draw&&mode==2 then
    match allM (j9 P ops nt site0 true false (je ops) (ops.toList.zipIdx.map fun(o,i)=>(i,((pM P o.op).map pE).getD false))) ops.toList 0 with
    |some vl=>ve ops vl (je ops) ops.size (Array.replicate ops.size false)
    |none=>none
  else if !draw&&ops.any (fun o=>KU o.op)then(p4 P nt site0 ops false false).map VC.Ls
  else(p4 P nt site0 ops draw (mode==1)).map (VC.ew draw)
def uy (md:List (Nat×Nat)) (id:Nat):Nat:=
  match md with
  |[]=>0
  |(i,m)::r=>if i=id then m else uy r id
def iU (P:Program) (md:List (Nat×Nat)) (nt fid:Nat):Code->Option VC
  | .skip=>some .skip
  | .region id ops draw=>NY P nt ((fid*1000+id)*1000) ops draw (uy md id)
  | .seq a b=>do pure (.seq (<-iU P md nt fid a) (<-iU P md nt fid b))
  | .cond c x y=>do pure (.cond (<-cO P c) (<-iU P md nt fid x) (<-iU P md nt fid y))
  | .block id c=>(iU P md nt fid c).map (VC.block id)
  | .loop c=>(iU P md nt fid c).map VC.loop
  | .exit id=>some (.exit id)
  | .ret=>some .ret
  |_=>none
def BA (P:Program) (r:ResultVar):Option mE:=
  match r with
  | .tmp t=>some (.tmp t)
  | .cell a t=>do pure (.cell (<-mL P t) (<-dK P t) a)
def vM (P:Program) (f:Nat) (md:List (Nat×Nat)):Option ze:=
  match P.funcs[f]? with
  |some fn=>match fn.body with
    |some c=>do
      let b <-iU P md fn.ntmps f c
      let r <-fn.results.toList.mapM (BA P)
      if fn.params.size+fn.nfree<=fn.ntmps then pure {ntmps:=fn.ntmps,xi:=fn.params.size+fn.nfree,body:=b,res:=r}else none
    |none=>none
  |none=>none
def mV (P:Program) (f:Nat):Option ze:=vM P f []
end Go.Proofs.YtgoelphibofcmaaGreat.V

namespace Go.Proofs.YtgoelphibofcmaaGreat.V
open Go.RowKit
structure Row where
 w:Bool
 sz:Nat
 rows:List (List AV)
abbrev Rows:=Id->Option Row
structure ar where
 get:Rows
 next:Nat
abbrev Env:=Nat->AV
def upd (env:Env):Option Nat->AV->Env
 |some d,v=>fun t=>if t=d then v else env t
 |none,_=>env
inductive Ex where
 |normal
 |exit (id:Nat)
 |ret
 deriving DecidableEq
def cF (env:Env):O->AV
 | .t n=>env n
 | .k c=>c.av
 | .ka cs=>.agg (cs.map K.av)
 | .f n=>.fn n []
def bj (g:Rows) (id:Id) (r:Row):Rows:=fun i=>if i=id then some r else g i
def bY (g:Rows) (id:Id):Rows:=fun i=>if i=id then none else g i
def fV:List Nat->Nat->Rows->Rows
 |[],_,g=>g
 |h::t,n,g=>fun id=>if (h::t).contains id.site=true/\id.bQ=n then none else g id
def ro (g:Rows):Rows:=fun id=>(g id).map fun r=>{r with w:=false}
def part (agg:Bool) (n:Nat) (cs:List AV):Option AV:=
 if agg then(if n<=cs.length then some (.agg (cs.take n))else none)else cs.head?
def rowAt (g:Rows) (id:Id) (i:Nat):Option (List AV):=(g id).bind (·.rows[i]?)
def ld (g:Rows) (agg:Bool) (n:Nat):AV->Option AV
 | .ptr id i off=>(rowAt g id i).bind fun cs=>part agg n (cs.drop off)
 | .cI cs=>part agg n cs
 |_=>none
def dz:BinOp->IntKind->Int->Int->Option AV
 | .add,k,a,b=>some (.int k (k.wrap (a+b)))
 | .sub,k,a,b=>some (.int k (k.wrap (a-b)))
 | .mul,k,a,b=>some (.int k (k.wrap (a*b)))
 | .quo,k,a,b=>if b=0 then none else some (.int k (k.wrap (a.tdiv b)))
 | .rem,k,a,b=>if b=0 then none else some (.int k (a.tmod b))
 | .lss,_,a,b=>some (.bool (decide (a<b)))
 | .leq,_,a,b=>some (.bool (decide (a<=b)))
 | .gtr,_,a,b=>some (.bool (decide (b<a)))
 | .geq,_,a,b=>some (.bool (decide (b<=a)))
 | .and,k,a,b=>some (.int k (k.wrap (BitVec.ofInt k.bits a&&& BitVec.ofInt k.bits b).toNat))
 | .or,k,a,b=>some (.int k (k.wrap (BitVec.ofInt k.bits a|||BitVec.ofInt k.bits b).toNat))
 | .xor,k,a,b=>some (.int k (k.wrap (BitVec.ofInt k.bits a ^^^ BitVec.ofInt k.bits b).toNat))
 |_,_,_,_=>none
def eb (op:BinOp):AV->AV->Option AV
 | .int k a,.int k' b=>if k=k' then dz op k a b else none
 |_,_=>none
def gT (left:Bool):AV->AV->Option AV
 | .int k a,.int _ b=>if b<0 then none else some (.int k (if left then k.wrap (a*2 ^ min b.toNat k.bits)else a.fdiv (2 ^ min b.toNat k.bits)))
 |_,_=>none
def er:BinOp->ByteArray->ByteArray->Option AV
 | .add,a,b=>if a.size+b.size<=9223372036854775807 then some (.str (a++b))else none
 | .lss,a,b=>some (.bool (Op.bytesLess a.toList b.toList))
 | .leq,a,b=>some (.bool (Op.bytesLess a.toList b.toList||(a.toList==b.toList)))
 | .gtr,a,b=>some (.bool !(Op.bytesLess a.toList b.toList||(a.toList==b.toList)))
 | .geq,a,b=>some (.bool !(Op.bytesLess a.toList b.toList))
 |_,_,_=>none
def cZ (op:BinOp):AV->AV->Option AV
 | .str a,.str b=>er op a b
 |_,_=>none
def fS:TS->AV->AV->Option Bool
 | .tI,.int k a,.int k' b=>if k=k' then some (decide (a=b))else none
 | .tB,.bool a,.bool b=>some (a==b)
 | .tS,.str a,.str b=>some (decide (a=b))
 |_,_,_=>none
def eU:List TS->List AV->List AV->Option Bool
 |[],[],[]=>some true
 |t::ts,a::r,b::s=>match fS t a b,eU ts r s with
  |some x,some y=>some (x&&y)
  |_,_=>none
 |_,_,_=>none
def dp (neg b:Bool):Bool:=if neg then !b else b
def cX:AV->Option Bool
 | .b4=>some true
 | .own _ _ _=>some false
 | .sl (_::_)=>some false
 |_=>none
def cW:AV->Option Bool
 | .iD=>some true
 | .fn _ _=>some false
 |_=>none
def Is:AV->Option Bool
 | .gD=>some true
 | .ptr .. | .cI _=>some false
 |_=>none
def eh (JK:Bool) (x:AV):Option Bool:=if JK then cW x else cX x
def dR (len:Nat):Option AV->Option Nat
 |none=>some len
 |some (.int _ n)=>if 0<=n/\n<=len then some n.toNat else none
 |_=>none
def dS (h:Nat):Option AV->Option Nat
 |none=>some 0
 |some (.int _ n)=>if 0<=n/\n<=h then some n.toNat else none
 |_=>none
def bH (g:Rows) (sz:Nat) (x:AV) (lo hi:Option AV):Option AV:=
 match x with
 | .b4=>(dR 0 hi).bind fun h=>(dS h lo).map fun _=>.b4
 | .sl rows=>(dR rows.length hi).bind fun h=>(dS h lo).bind fun l=>if ∀cs∈rows,cs.length=sz then some (.sl ((rows.drop l).take (h-l)))else none
 | .own id off len=>(g id).bind fun r=>(dR len hi).bind fun h=>(dS h lo).bind fun l=>if r.sz=sz then some (.own id (off+l) (h-l))else none
 |_=>none
def aW (x:AV) (lo hi:Option AV):Option AV:=
 match x with
 | .str s=>(dR s.size hi).bind fun h=>(dS h lo).map fun l=>.str (s.extract l h)
 |_=>none
def CX (off:Nat):AV->Option AV
 | .ptr id i o=>some (.ptr id i (o+off))
 | .cI cs=>some (.cI (cs.drop off))
 |_=>none
def bG (g:Rows) (sz:Nat):AV->AV->Option AV
 | .sl rows,.int _ n=>if 0<=n then(rows[n.toNat]?).bind fun cs=>if cs.length=sz then some (.cI cs)else none else none
 | .own id off len,.int _ n=>if 0<=n/\n<len then(g id).bind fun r=>if r.sz=sz then some (.ptr id (off+n.toNat) 0)else none else none
 |_,_=>none
def cN (len sz:Nat):AV->AV->Option AV
 | .ptr id r off,.int _ n=>if 0<=n/\n<len then some (.ptr id r (off+n.toNat*sz))else none
 | .cI cs,.int _ n=>if 0<=n/\n<len then some (.cI (cs.drop (n.toNat*sz)))else none
 |_,_=>none
def cQ:AV->AV->Option AV
 | .str s,.int _ n=>if 0<=n then(s[n.toNat]?).map fun b=>.int .u8 b.toNat else none
 |_,_=>none
def cP (agg:Bool) (len n:Nat):AV->AV->Option AV
 | .agg cs,.int _ i=>if 0<=i/\i<len then part agg n (cs.drop (i.toNat*n))else none
 |_,_=>none
def ee:AV->Option Nat
 | .b4=>some 0
 | .sl rows=>some rows.length
 | .own _ _ n=>some n
 |_=>none
def ei:AV->Option AV
 | .bool b=>some (.bool !b)
 |_=>none
def ef:AV->Option AV
 | .int k n=>some (.int k (k.wrap (0-n)))
 |_=>none
def cL (k:IntKind):AV->Option AV
 | .int _ n=>some (.int k (k.wrap n))
 |_=>none
def bP:AV->Option AV
 | .str s=>some (.str s)
 |_=>none
def cY:AV->AV->AV->Option AV
 | .bool c,a,b=>some (if c then a else b)
 |_,_,_=>none
def ec:AV->Option AV
 | .ptr id i o=>some (.ptr id i o)
 | .cI cs=>some (.cI cs)
 |_=>none
def bF (agg:Bool) (off n:Nat):AV->Option AV
 | .agg cs=>if off+n<=cs.length then part agg n (cs.drop off)else none
 |_=>none
def aL (i:Nat):AV->Option AV
 | .gn vs=>vs[i]?
 |_=>none
def cU:AV->Option AV
 | .str s=>some (.int .i64 s.size)
 |_=>none
def rowOf (sz:Nat) (v:AV):Option (List AV):=if v.cells.length=sz/\v.cells.all AV.cell then some v.cells else none
def cJ (v:AV):Option (List AV):=if v.cells.all AV.cell then some v.cells else none
def rowsOf (sz:Nat):List AV->Option (List (List AV))
 |[]=>some []
 |v::r=>(rowOf sz v).bind fun c=>(rowsOf sz r).map fun cs=>c::cs
def cw:List AV->List (Nat×Nat×AV)->Option (List AV)
 |cs,[]=>some cs
 |cs,(off,n,v)::r=>if v.cells.length=n/\off+n<=cs.length/\v.cells.all AV.cell then cw (cs.take off++v.cells++cs.drop (off+n)) r else none
def dB:Nat:=16777216
def gS (zero:List K):AV->AV->Option (Nat×Row)
 | .int _ l,.int _ c=>if 0<=l/\l<=c/\c<=dB then some (l.toNat,⟨true,zero.length,List.replicate l.toNat (zero.map K.av)⟩)else none
 |_,_=>none
def qp:Nat:=1000000000
def MK.ks (m:MK):Nat:=m.ts.length
def MK.oq (m:MK):Nat:=qp+m.ks
def AV.isAgg:AV->Bool
 | .agg _=>true
 |_=>false
def fJ (m:MK) (key:List AV):List (List AV)->Nat->Option (Option Nat)
 |[],_=>some none
 |r::l,i=>match eU m.ts key (r.take m.ks)with
  |some true=>some (some i)
  |some false=>fJ m key l (i+1)
  |none=>none
def dV (g:Rows) (m:MK):AV->Option (Id×Row)
 | .map id m'=>if m'=m then(g id).map fun r=>(id,r)else none
 |_=>none
def fx (m:MK) (k:AV) (rows:List (List AV)):Option (Option Nat):=if k.isAgg=m.ka/\k.cells.length=m.ks/\k.cells.all AV.cell then fJ m k.cells rows 0 else none
def ea (m:MK) (z:K) (rows:List (List AV)):Option Nat->Option AV
 |some i=>(rows[i]?).bind fun cs=>cs[m.ks]?
 |none=>some z.av
def bw (q:MQ) (vs:List AV) (g:Rows) (id:Id):Option (AV×Option Row):=
 match q,vs with
 | .new m,[]=>some (.map id m,some ⟨true,m.oq,[]⟩)
 | .look m ok z,[x,k]=>(dV g m x).bind fun p=>(fx m k p.2.rows).bind fun fi=>(ea m z p.2.rows fi).map fun v=>(if ok then .gn [v,.bool fi.isSome]else v,none)
 | .len m,[x]=>(dV g m x).map fun p=>(.int .i64 p.2.rows.length,none)
 |_,_=>none
def pd:Nat:=2000000000
def cV:AV->Option Nat
 | .int _ n=>if 0<=n/\n<=1048576 then some n.toNat else none
 |_=>none
def cR (g:Rows):AV->Option AV
 | .p7 id=>(g id).map fun r=>.int .i64 r.rows.length
 |_=>none
def ek (g:Rows):AV->AV->Option Rows
 | .p7 id,v=>(g id).bind fun r=>if r.w/\pd+r.rows.length<r.sz/\v.cell then some (bj g id {r with rows:=r.rows++[[v]]})else none
 |_,_=>none
def ej (g:Rows):AV->Option (AV×Rows)
 | .p7 id=>(g id).bind fun r=>match r.rows with
  |[v]::rest=>if r.w then some (v,bj g id {r with rows:=rest})else none
  |_=>none
 |_=>none
def dI (rows:List (List AV)) (e:List AV):Option Nat->List (List AV)
 |some i=>rows.set i e
 |none=>rows++[e]
def dG (rows:List (List AV)):Option Nat->List (List AV)
 |some i=>rows.eraseIdx i
 |none=>rows
def bB (q:MW) (vs:List AV) (g:Rows):Option Rows:=
 match q,vs with
 | .set m,[x,k,v]=>(dV g m x).bind fun p=>(fx m k p.2.rows).bind fun fi=>if p.2.w/\v.cell/\v.isAgg=false then some (bj g p.1 {p.2 with rows:=dI p.2.rows (k.cells++[v]) fi})else none
 | .del m,[x,k]=>(dV g m x).bind fun p=>(fx m k p.2.rows).bind fun fi=>if p.2.w then some (bj g p.1 {p.2 with rows:=dG p.2.rows fi})else none
 |_,_=>none
def eG (o:fX) (ρ:O->AV) (g:Rows) (id:Id):Option (AV×Option Row):=
 match o with
 | .dc x=>some (ρ x,none)
 | .pick c a b=>(cY (ρ c) (ρ a) (ρ b)).map (·,none)
 | .new zero=>some (.ptr id 0 0,some ⟨true,zero.length,[zero.map K.av]⟩)
 | .box x=>(cJ (ρ x)).map fun cs=>(.ptr id 0 0,some ⟨true,cs.length,[cs]⟩)
 | .build zero parts=>(cw (zero.map K.av) (parts.map fun(o,n,x)=>(o,n,ρ x))).map fun cs=>(.agg cs,none)
 | .lf sz len parts=>(rowsOf sz (parts.map ρ)).map fun rs=>(.own id 0 len,some ⟨true,sz,rs⟩)
 | .load agg n a=>(ld g agg n (ρ a)).map (·,none)
 | .zf x=>(ec (ρ x)).map (·,none)
 | .bin op _ x y=>(eb op (ρ x) (ρ y)).map (·,none)
 | .sh left x y=>(gT left (ρ x) (ρ y)).map (·,none)
 | .I8 op x y=>(cZ op (ρ x) (ρ y)).map (·,none)
 | .Ly neg t x y=>(fS t (ρ x) (ρ y)).map fun b=>(.bool (dp neg b),none)
 | .PT neg ts x y=>match ρ x,ρ y with
  | .agg xs,.agg ys=>(eU ts xs ys).map fun b=>(.bool (dp neg b),none)
  |_,_=>none
 | .N6 neg JK x=>(eh JK (ρ x)).map fun b=>(.bool (dp neg b),none)
 | .PU neg x=>(Is (ρ x)).map fun b=>(.bool (dp neg b),none)
 | .not x=>(ei (ρ x)).map (·,none)
 | .neg x=>(ef (ρ x)).map (·,none)
 | .conv k x=>(cL k (ρ x)).map (·,none)
 | .C9 x=>(bP (ρ x)).map (·,none)
 | .slice sz x lo hi=>(bH g sz (ρ x) (lo.map ρ) (hi.map ρ)).map (·,none)
 | .yR x lo hi=>(aW (ρ x) (lo.map ρ) (hi.map ρ)).map (·,none)
 | .fB off x=>(CX off (ρ x)).map (·,none)
 | .field agg off n x=>(bF agg off n (ρ x)).map (·,none)
 | .dw sz x i=>(bG g sz (ρ x) (ρ i)).map (·,none)
 | .JF len sz x i=>(cN len sz (ρ x) (ρ i)).map (·,none)
 | .JH x i=>(cQ (ρ x) (ρ i)).map (·,none)
 | .dZ agg len n x i=>(cP agg len n (ρ x) (ρ i)).map (·,none)
 | .extract i x=>(aL i (ρ x)).map (·,none)
 | .len x=>(ee (ρ x)).map fun(n:Nat)=>(AV.int .i64 (n:Int),none)
 | .JN x=>(cU (ρ x)).map (·,none)
 | .JR f cC=>some (.fn f (cC.map ρ),none)
 | .JS f first=>some (.sC f (first.map ρ),none)
 | .jC zero l c=>(gS zero (ρ l) (ρ c)).map fun(n,r)=>(.own id 0 n,some r)
 | .mq q xs=>bw q (xs.map ρ) g id
 | .Hv x=>(cV (ρ x)).map fun n=>(.p7 id,some ⟨true,pd+n,[]⟩)
 | .Hp x=>(cR g (ρ x)).map (·,none)
 |_=>none
def bl (g:Rows):AV->Option (List (List AV))
 | .b4=>some []
 | .sl rows=>some rows
 | .own id off len=>(g id).bind fun r=>if off+len<=r.rows.length then some ((r.rows.drop off).take len)else none
 |_=>none
def cG (cs:List AV) (off:Nat) (xs:List AV):List AV:=cs.take off++xs++cs.drop (off+xs.length)
def bI (g:Rows) (n:Nat) (v:AV):AV->Option Rows
 | .ptr id i off=>(g id).bind fun r=>(r.rows[i]?).bind fun cs=>
  if r.w/\v.cells.length=n/\v.cells.all AV.cell/\off+n<=cs.length then some (bj g id {r with rows:=r.rows.set i (cG cs off v.cells)})else none
 |_=>none
def aP (g:Rows) (id:Id) (sz:Nat) (x:AV) (ys:List (List AV)):Option (AV×Rows):=
 match x with
 | .b4=>match ys with
  |[]=>some (.b4,g)
  |y::r=>if (y::r).length<=dB/\(y::r).all (fun c=>c.length==sz&&c.all AV.cell)then some (.own id 0 (y::r).length,bj g id ⟨true,sz,y::r⟩)else none
 | .own i 0 len=>(g i).bind fun r=>
  if r.w/\r.sz=sz/\len=r.rows.length/\len+ys.length<=dB/\ys.all (fun c=>c.length==sz&&c.all AV.cell)then some (.own id 0 (len+ys.length),bj (bY g i) id ⟨true,sz,r.rows++ys⟩)else none
 |_=>none
def DS (g:Rows) (sz:Nat) (x:AV) (ys:List (List AV)):Option (AV×Rows):=
 match x with
 | .own i off len=>(g i).bind fun r=>
  if r.w/\r.sz=sz/\off+len<=r.rows.length/\ys.all (fun c=>c.length==sz&&c.all AV.cell)then
   some (.int .i64 (min ys.length len:Nat),bj g i {r with rows:=r.rows.take off++ys.take (min ys.length len)++r.rows.drop (off+min ys.length len)})else none
 |_=>none
def bE (g:Rows) (zero:List K) (x:AV):Option Rows:=
 match x with
 | .b4=>some g
 | .own i off len=>(g i).bind fun r=>
  if r.w/\r.sz=zero.length/\off+len<=r.rows.length then
   some (bj g i {r with rows:=r.rows.take off++List.replicate len (zero.map K.av)++r.rows.drop (off+len)})else none
 |_=>none
def fW (o:fX) (ρ:O->AV) (g:Rows) (id:Id):Option (AV×Rows):=
 match o with
 | .store n a x=>(bI g n (ρ x) (ρ a)).map fun g'=>(.undef,g')
 | .append sz x y=>(bl g (ρ y)).bind fun ys=>aP g id sz (ρ x) ys
 | .copy sz x y=>(bl g (ρ y)).bind fun ys=>DS g sz (ρ x) ys
 | .clear zero x=>(bE g zero (ρ x)).map fun g'=>(.undef,g')
 | .mw q xs=>(bB q (xs.map ρ) g).map fun g'=>(.undef,g')
 |_=>none
def tH:AV->List AV->Option (Nat×List AV)
 | .fn f cC,l=>some (f,l++cC)
 | .sC f first,l=>some (f,first++l)
 |_,_=>none
abbrev fq:=Nat->List AV->ar->(AV->ar->Prop)->Prop
mutual
def fz (g:Rows):Nat->AV->Option AV
 |0,_=>none
 |n+1,a=>match a with
  | .own id off len=>match g id with
   |some r=>if r.w then(if off+len<=r.rows.length then(dM g n ((r.rows.drop off).take len)).map AV.sl else none)else none
   |none=>none
  | .ptr id i off=>match g id with
   |some r=>if r.w then(match r.rows[i]? with
    |some cs=>(da g n (cs.drop off)).map AV.cI
    |none=>none)else none
   |none=>none
  | .agg cs=>(da g n cs).map AV.agg
  | .gn vs=>(da g n vs).map AV.gn
  | .fn f cC=>if cC.all AV.cell then(da g n cC).map (AV.fn f)else none
  | .map _ _| .sC _ _| .p7 _=>none
  |v=>some v
 termination_by n _=>(n,0)
def da (g:Rows):Nat->List AV->Option (List AV)
 |n,[]=>some []
 |n,a::r=>match fz g n a with
  |some b=>(da g n r).map (b::·)
  |none=>none
 termination_by n l=>(n,l.length+1)
def dM (g:Rows):Nat->List (List AV)->Option (List (List AV))
 |n,[]=>some []
 |n,c::r=>match da g n c with
  |some b=>(dM g n r).map (b::·)
  |none=>none
 termination_by n l=>(n,(l.map (fun c=>c.length+2)).sum+1)
 decreasing_by all_goals simp_wf;try omega
end
mutual
def fZ (g:Rows):Nat->AV->Option AV
 |0,_=>none
 |n+1,a=>match a with
  | .own id off len=>match g id with
   |some r=>if r.w then(if off+len<=r.rows.length then(gN g n ((r.rows.drop off).take len)).map AV.sl else none)else none
   |none=>none
  | .ptr id i off=>match g id with
   |some r=>if r.w then(match r.rows[i]? with
    |some cs=>(dU g n (cs.drop off)).map AV.cI
    |none=>none)else none
   |none=>none
  | .agg cs=>(dU g n cs).map AV.agg
  | .gn vs=>(dU g n vs).map AV.gn
  | .int k m=>some (.int k m)
  | .bool b=>some (.bool b)
  | .str s=>some (.str s)
  | .b4=>some .b4
  | .gD=>some .gD
  | .iD=>some .iD
  | .iQ=>some .iQ
  |_=>none
 termination_by n _=>(n,0)
def dU (g:Rows):Nat->List AV->Option (List AV)
 |n,[]=>some []
 |n,a::r=>match fZ g n a with
  |some b=>(dU g n r).map (b::·)
  |none=>none
 termination_by n l=>(n,l.length+1)
def gN (g:Rows):Nat->List (List AV)->Option (List (List AV))
 |n,[]=>some []
 |n,c::r=>match dU g n c with
  |some b=>(gN g n r).map (b::·)
  |none=>none
 termination_by n l=>(n,(l.map (fun c=>c.length+2)).sum+1)
 decreasing_by all_goals simp_wf;try omega
end
def dO (g:Rows):Rows:=fun id=>(g id).map fun r=>{r with w:=true}
def PC (X:fq) (f:Nat) (args:List AV) (σ:ar) (K:AV->Prop):Prop:=
 X f args ⟨ro σ.get,σ.next⟩ fun r σ'=>∃r',fz σ'.get 6 r=some r'/\K r'
def PCv (X:fq) (f:Nat) (args:List AV) (σ:ar) (K:AV->Prop):Prop:=
 ∃eB,da (dO σ.get) 6 args=some eB/\X f eB ⟨fun _=>none,σ.next⟩ fun r σ'=>∃r',fZ σ'.get 6 r=some r'/\K r'
def gp (X:fq) (f:Nat) (args:List AV) (σ:ar) (K:AV->Prop):Prop:=PC X f args σ K∨PCv X f args σ K
def aH (g:Option (Nat×Bool)) (env:Env):Bool:=
 match g with
 |none=>true
 |some (t,b)=>match env t with
  | .bool c=>c==b
  |_=>false
def AV.plain:AV->Bool
 | .int .. | .bool _| .str _| .b4| .gD| .iD| .iQ=>true
 |_=>false
def CM (X:fq) (f:Nat) (args:List AV) (σ:ar) (sz:Nat) (rows:List (List AV)):Prop:=
 (∀c∈rows,∀a∈c,a.plain=true)/\∃eB,da (dO σ.get) 6 args=some eB/\X f eB ⟨fun _=>none,σ.next⟩ fun r σ'=>∃id,r=.own id 0 rows.length/\σ'.get id=some ⟨true,sz,rows⟩
def cE (X:fq) (draw:Bool) (hid:List Nat) (site:Nat) (f:Nat) (args:List AV) (σ:ar) (next:AV->ar->Prop):Prop:=
 (∃r,gp X f args ⟨fV hid σ.next σ.get,σ.next+1⟩ (fun r'=>r'=r)/\next r σ)∨
 (draw=false/\X f args ⟨σ.get,σ.next+1⟩ next)∨
 (hid.contains site=true/\∃sz rows,CM X f args ⟨fV hid σ.next σ.get,σ.next+1⟩ sz rows/\next (.own ⟨site,σ.next⟩ 0 rows.length) ⟨bj σ.get ⟨site,σ.next⟩ ⟨true,sz,rows⟩,σ.next⟩)
def fC (X:fq) (draw:Bool) (o:aT) (env:Env) (σ:ar) (next:AV->ar->Prop):Prop:=
 match o.op with
 | .call f args=>cE X draw o.hid o.site f (args.map (cF env)) σ next
 | .sa x args=>match cF env x with
  | .fn f cC=>cE X draw o.hid o.site f (args.map (cF env)++cC) σ next
  | .sC f first=>cE X draw o.hid o.site f (first++args.map (cF env)) σ next
  |_=>False
 | .store .. | .append .. | .copy .. | .clear .. | .mw .. =>match fW o.op (cF env) σ.get ⟨o.site,σ.next⟩with
  |some (v,g)=>next v ⟨g,σ.next⟩
  |none=>False
 |_=>match eG o.op (cF env) (fV o.hid σ.next σ.get) ⟨o.site,σ.next⟩with
  |some (v,some r)=>next v ⟨bj σ.get ⟨o.site,σ.next⟩ r,σ.next⟩
  |some (v,none)=>next v σ
  |none=>False
def wpOps (X:fq) (draw:Bool):List aT->(Env->ar->Prop)->Env->ar->Prop
 |[],K,env,σ=>K env ⟨σ.get,σ.next+1⟩
 |o::r,K,env,σ=>
  if aH o.guard env then fC X draw o env σ fun v σ'=>wpOps X draw r K (upd env o.dst v) σ'
  else wpOps X draw r K (upd env o.dst .undef) σ
def cq:List aT->(Env->ar->Prop)->Env->ar->Prop
 |[],K,env,σ=>K env ⟨σ.get,σ.next+1⟩
 |o::r,K,env,σ=>o.guard=none/\match o.op with
  | .snd x y=>match ek σ.get (cF env x) (cF env y)with
   |some g=>cq r K (upd env o.dst .undef) ⟨g,σ.next⟩
   |none=>False
  | .MC x=>match ej σ.get (cF env x)with
   |some (v,g)=>cq r K (upd env o.dst v) ⟨g,σ.next⟩
   |none=>False
  |op=>match eG op (cF env) σ.get ⟨o.site,σ.next⟩with
   |some (v,none)=>cq r K (upd env o.dst v) σ
   |_=>False
def dd (next:Env->ar->Prop) (Q:Ex->Env->ar->Prop):Ex->Env->ar->Prop
 | .normal=>next
 |e=>Q e
def aU (id:Nat) (Q:Ex->Env->ar->Prop):Ex->Env->ar->Prop
 | .exit jB=>if jB=id then Q .normal else Q (.exit jB)
 |e=>Q e
def DF (W:(Ex->Env->ar->Prop)->Env->ar->Prop) (Q:Ex->Env->ar->Prop):Nat->Env->ar->Prop
 |0=>fun _ _=>False
 |n+1=>W (dd (DF W Q n) Q)
def JO (t s:Nat) (y:O) (env:Env) (n:Nat):Prop:=(∃len,env t=.own ⟨s,n⟩ 0 len)/\∀id o l,cF env y=.own id o l->id.bQ≠n
def dx (X:fq):VC->(Ex->Env->ar->Prop)->Env->ar->Prop
 | .skip,Q=>Q .normal
 | .ew draw ops,Q=>wpOps X draw ops (Q .normal)
 | .seq a b,Q=>dx X a (dd (dx X b Q) Q)
 | .cond c x y,Q=>fun env σ=>match cF env c with
  | .bool b=>if b then dx X x Q env σ else dx X y Q env σ
  |_=>False
 | .block id c,Q=>dx X c (aU id Q)
 | .loop c,Q=>fun env σ=>∃n,DF (dx X c) Q n env σ
 | .exit id,Q=>Q (.exit id)
 | .ret,Q=>Q .ret
 | .one o c,Q=>fun env σ=>if aH o.guard env then fC X false o env σ fun v σ'=>dx X c Q (upd env o.dst v) σ' else dx X c Q (upd env o.dst .undef) σ
 | .both a b,Q=>fun env σ=>dx X a Q env σ/\dx X b Q env σ
 | .loc t s y c,Q=>fun env σ=>JO t s y env σ.next/\dx X c Q env σ
 | .Ls ops,Q=>cq ops (Q .normal)
def gR (env:Env) (g:Rows):mE->Option AV
 | .tmp t=>some (env t)
 | .cell agg n t=>ld g agg n (env t)
def eZ (env:Env) (g:Rows):List mE->Option (List AV)
 |[]=>some []
 |r::l=>(gR env g r).bind fun v=>(eZ env g l).map (v::·)
def fo:List AV->AV
 |[v]=>v
 |l=>.gn l
def cj (args:List AV):Env:=fun t=>args.getD t .undef
def j0 (res:List mE) (K:AV->ar->Prop):Ex->Env->ar->Prop
 | .exit _,_,_=>False
 |_,env,σ=>∃vs,eZ env σ.get res=some vs/\K (fo vs) σ
end Go.Proofs.YtgoelphibofcmaaGreat.V

namespace Go.Proofs.YtgoelphibofcmaaGreat.V
open Go.RowKit
inductive jh (P:Program) (w:World) (D:Nat->Prop):AV->Value->Prop
 |int (k n):jh P w D (.int k n) (.int k n)
 |bool (b):jh P w D (.bool b) (.bool b)
 |str (s):jh P w D (.str s) (.string s)
 |b4:jh P w D .b4 (.slice none 0 0)
 |gD:jh P w D .gD (.pointer none)
 |iD:jh P w D .iD .nilFunc
 |zm (a c):c<=maxLen->jh P w D (.sl []) (.slice a 0 c)
 |sl (rows b o n c sz) (vs:Nat->Nat->Value):rows.length=n->n<=c->c<=maxLen->D b->(∀cs∈rows,cs.length=sz)->(∀cs∈rows,∀a∈cs,a.cell=true)->
   (∀i j,i<n->j<sz->w.cell? ⟨b,o+(i*sz+j),none⟩=some (vs i j))->
   (∀i j cs a,rows[i]? =some cs->cs[j]? =some a->jh P w D a (vs i j))->jh P w D (.sl rows) (.slice (some ⟨b,o,none⟩) n c)
 |cI (cs b o) (vs:Nat->Value):D b->(∀a∈cs,a.cell=true)->(∀j,j<cs.length->w.cell? ⟨b,o+j,none⟩=some (vs j))->
   (∀j a,cs[j]? =some a->jh P w D a (vs j))->jh P w D (.cI cs) (.pointer (some ⟨b,o,none⟩))
 |agg (cs) (vs:Array Value) (f:Nat->Value):vs.size=cs.length->(∀a∈cs,a.cell=true)->(∀j,j<cs.length->vs[j]? =some (f j))->(∀j a,cs[j]? =some a->jh P w D a (f j))->jh P w D (.agg cs) (.agg vs)
 |fn (f cC) (vs:Array Value) (g:Nat->Value):fu P f=true->vs.size=cC.length->(∀j,j<cC.length->vs[j]? =some (g j))->(∀j a,cC[j]? =some a->jh P w D a (g j))->jh P w D (.fn f cC) (.func (.func f) #[] vs)
 |iQ:jh P w D .iQ (.map none)
inductive BK where
 |map (m:MK)
 |chan (cap:Nat)
structure qO where
 b:Nat
 sz:Nat
 C:Nat
 k:Option BK
abbrev Names:=Id->Option qO
inductive cu (P:Program) (w:World) (D:Nat->Prop) (ι:Names):AV->Value->Prop
 |eD (a v):jh P w D a v->cu P w D ι a v
 |own (id off len o cap B):ι id=some B->B.k=none->len<=cap->(cap=0∨o=off*B.sz)->(off+cap)*B.sz<=B.C->cap<=maxLen->cu P w D ι (.own id off len) (.slice (some ⟨B.b,o,none⟩) len cap)
 |ptr (id i off B):ι id=some B->B.k=none->cu P w D ι (.ptr id i off) (.pointer (some ⟨B.b,i*B.sz+off,none⟩))
 |agg (cs) (vs:Array Value) (f:Nat->Value):vs.size=cs.length->(∀a∈cs,a.cell=true)->(∀j,j<cs.length->vs[j]? =some (f j))->(∀j a,cs[j]? =some a->cu P w D ι a (f j))->cu P w D ι (.agg cs) (.agg vs)
 |gn (cs) (vs:Array Value) (f:Nat->Value):vs.size=cs.length->(∀j,j<cs.length->vs[j]? =some (f j))->(∀j a,cs[j]? =some a->cu P w D ι a (f j))->cu P w D ι (.gn cs) (.tuple vs)
 |fn (f cC) (vs:Array Value) (g:Nat->Value):fu P f=true->vs.size=cC.length->(∀j,j<cC.length->vs[j]? =some (g j))->(∀j a,cC[j]? =some a->cu P w D ι a (g j))->cu P w D ι (.fn f cC) (.func (.func f) #[] vs)
 |p7 (id c B):ι id=some B->B.k=some (.chan c)->cu P w D ι (.p7 id) (.chan (some B.b))
 |map (id m B):ι id=some B->B.k=some (.map m)->cu P w D ι (.map id m) (.map (some B.b))
 |sC (f cC) (vs:Array Value) (g:Nat->Value):fu P f=true->vs.size=cC.length->(∀j,j<cC.length->vs[j]? =some (g j))->(∀j a,cC[j]? =some a->cu P w D ι a (g j))->cu P w D ι (.sC f cC) (.func (.func f) vs #[])
variable {P:Program} {w w':World} {D D':Nat->Prop} {ι ι':Names}
theorem jh.frame (hD:∀b,D b->w'.heap[b]? =w.heap[b]?) (hs:∀b,D b->D' b) {a:AV} {v:Value} (h:jh P w D a v):jh P w' D' a v:=by
 induction h with
 |int k n=>exact .int k n
 |bool b=>exact .bool b
 |str s=>exact .str s
 |b4=>exact .b4
 |gD=>exact .gD
 |iD=>exact .iD
 |iQ=>exact .iQ
 |zm a c h=>exact .zm a c h
 |sl rows b o n c sz vs h1 h2 h3 h4 h5 h5' h6 _ ih=>exact .sl rows b o n c sz vs h1 h2 h3 (hs b h4) h5 h5' (fun i j hi hj=>(World.cell?_of_block (hD b h4)).trans (h6 i j hi hj)) ih
 |cI cs b o vs h1 LH h2 _ ih=>exact .cI cs b o vs (hs b h1) LH (fun j hj=>(World.cell?_of_block (hD b h1)).trans (h2 j hj)) ih
 |agg cs vs f h1 h2 h3 _ ih=>exact .agg cs vs f h1 h2 h3 ih
 |fn f cC vs g h1 h2 h3 _ ih=>exact .fn f cC vs g h1 h2 h3 ih
theorem cu.frame (hD:∀b,D b->w'.heap[b]? =w.heap[b]?) (hs:∀b,D b->D' b) (hι:∀id B,ι id=some B->ι' id=some B) {a:AV} {v:Value} (h:cu P w D ι a v):cu P w' D' ι' a v:=by
 induction h with
 |eD a v h=>exact .eD a v (h.frame hD hs)
 |map id m B h1 h2=>exact .map id m B (hι _ _ h1) h2
 |p7 id c B h1 h2=>exact .p7 id c B (hι _ _ h1) h2
 |own id off len o cap B h1 h2 h3 h4 h5 h6=>exact .own id off len o cap B (hι _ _ h1) h2 h3 h4 h5 h6
 |ptr id i off B h1 h2=>exact .ptr id i off B (hι _ _ h1) h2
 |agg cs vs f h1 h2 h3 _ ih=>exact .agg cs vs f h1 h2 h3 ih
 |gn cs vs f h1 h2 _ ih=>exact .gn cs vs f h1 h2 ih
 |fn f cC vs g h1 h2 h3 _ ih=>exact .fn f cC vs g h1 h2 h3 ih
 |sC f cC vs g h1 h2 h3 _ ih=>exact .sC f cC vs g h1 h2 h3 ih
theorem cu.undef:cu P w D ι .undef Go.undef:=.gn [] #[] (fun _=>Go.undef) rfl (fun j hj=>by simp at hj) (fun j a h=>by simp at h)
theorem uK (c:K):cu P w D ι c.av c.val:=by
 cases c with
 |int k n=>exact .eD _ _ (.int k n)
 |bool b=>exact .eD _ _ (.bool b)
 |str l=>exact .eD _ _ (.str _)
 |b4=>exact .eD _ _ .b4
 |gD=>exact .eD _ _ .gD
 |iD=>exact .eD _ _ .iD
 |iQ=>exact .eD _ _ .iQ
theorem K.lX (c:K):c.av.cell=true:=by cases c<;>rfl
theorem yn {v:Value} {c:K} (h:EN v=some c):v=c.val:=by
 unfold EN at h
 split at h<;>simp at h<;>subst h<;>rfl
theorem cu.zG {a:AV} {v:Value} (h:cu P w D ι a v) (hc:a.cell=true):v.cells= #[v]/\(∀vs,v≠.agg vs)/\(∀vs,v≠.tuple vs):=by
 cases h with
 |eD a v h=>cases h<;>simp_all [AV.cell,Value.cells]
 |own=>simp[Value.cells]
 |map=>simp[Value.cells]
 |p7=>simp[Value.cells]
 |ptr=>simp[Value.cells]
 |agg=>simp[AV.cell]at hc
 |gn=>simp[AV.cell]at hc
 |fn=>simp[Value.cells]
 |sC=>simp[Value.cells]
theorem cu.cells {a:AV} {v:Value} (h:cu P w D ι a v) (ha:a.cells.all AV.cell=true):v.cells.size=a.cells.length/\∃f:Nat->Value,(∀j,j<a.cells.length->v.cells[j]? =some (f j))/\∀j x,a.cells[j]? =some x->cu P w D ι x (f j):=by
 have one:∀(a:AV) (v:Value),a.cell=true->a.cells=[a]->cu P w D ι a v->v.cells.size=a.cells.length/\∃f:Nat->Value,(∀j,j<a.cells.length->v.cells[j]? =some (f j))/\∀j x,a.cells[j]? =some x->cu P w D ι x (f j):=by
  intro a v hc dn h
  obtain⟨h1,_,_⟩:=h.zG hc
  rw[h1,dn]
  refine⟨rfl,fun _=>v,fun j hj=>?_,fun j x hx=>?_⟩
  ·have:j=0:=by simp at hj;omega
   subst this;rfl
  ·cases j with
   |zero=>simp at hx;subst hx;exact h
   |succ j=>simp at hx
 cases h with
 |eD a v h=>
  cases h with
  |agg cs vs f h1 h2 h3 h4=>exact⟨h1,f,h3,fun j x hx=>.eD _ _ (h4 j x hx)⟩
  |_=>exact one _ _ rfl rfl (.eD _ _ (by constructor<;>assumption))
 |own id off len o cap B h1 h2 h3 h4 h5 h6=>exact one _ _ rfl rfl (.own id off len o cap B h1 h2 h3 h4 h5 h6)
 |ptr id i off B h1 h2=>exact one _ _ rfl rfl (.ptr id i off B h1 h2)
 |map id m B h1 h2=>exact one _ _ rfl rfl (.map id m B h1 h2)
 |p7 id c B h1 h2=>exact one _ _ rfl rfl (.p7 id c B h1 h2)
 |agg cs vs f h1 h2 h3 h4=>exact⟨h1,f,h3,h4⟩
 |gn cs vs f h1 h2 h3=>simp[AV.cells,AV.cell]at ha
 |fn f cC vs g h1 h2 h3 h4=>exact one _ _ rfl rfl (.fn f cC vs g h1 h2 h3 h4)
 |sC f cC vs g h1 h2 h3 h4=>exact one _ _ rfl rfl (.sC f cC vs g h1 h2 h3 h4)
structure kM (P:Program) (w:World) (D:Nat->Prop) (ι:Names) (B:qO) (r:Row):Prop where
 sz:B.sz=r.sz
 vJ:∃cells T,w.heap[B.b]? =some (.cells cells T (0,0))/\cells.size=B.C
 fits:r.rows.length*r.sz<=B.C
 len:∀cs∈r.rows,cs.length=r.sz
 flat:∀cs∈r.rows,∀a∈cs,a.cell=true
 at_:∀i j cs a,r.rows[i]? =some cs->cs[j]? =some a->∃v,w.cell? ⟨B.b,i*r.sz+j,none⟩=some v/\cu P w D ι a v
def IY (es:Array MapEntry) (clock:Nat):Prop:=(∀x∈es.toList,x.born<clock)/\(es.toList.map (·.born)).Nodup
def Kr (P:Program) (w:World) (D:Nat->Prop) (ι:Names) (B:qO) (m:MK) (r:Row):Prop:=
 ∃(es:Array MapEntry) (clock:Nat),w.heap[B.b]? =some (.map es clock)/\es.size=r.rows.length/\((∀cs∈r.rows,cs.length=m.ks+1)/\IY es clock)/\
  ∀(i:Nat) (cs:List AV),r.rows[i]? =some cs->∃(e:MapEntry) (kv vv:AV),es[i]? =some e/\part m.ka m.ks cs=some kv/\cs[m.ks]? =some vv/\cu P w D ι kv e.key/\cu P w D ι vv e.val
def FY (P:Program) (w:World) (D:Nat->Prop) (ι:Names) (B:qO) (c:Nat) (r:Row):Prop:=
 ∃(buf:Array Value) (s q:Nat),w.heap[B.b]? =some (.chan c buf false s q false)/\buf.size=r.rows.length/\
  ∀(i:Nat) (cs:List AV),r.rows[i]? =some cs->∃(a:AV) (u:Value),cs=[a]/\buf[i]? =some u/\cu P w D ι a u
structure gu (P:Program) (w:World) (D:Nat->Prop) (ι:Names) (B:qO) (r:Row):Prop where
 sz:B.sz=r.sz
 flat:∀cs∈r.rows,∀a∈cs,a.cell=true
 row:B.k=none->kM P w D ι B r
 map:∀m,B.k=some (.map m)->r.sz=m.oq/\Kr P w D ι B m r
 chan:∀c,B.k=some (.chan c)->r.sz=pd+c/\FY P w D ι B c r
theorem kM.obj {B:qO} {r:Row} (R:kM P w D ι B r) (h:B.k=none):gu P w D ι B r:=⟨R.sz,R.flat,fun _=>R,fun m hm=>(by rw[h]at hm;cases hm),fun m hm=>by rw[h]at hm;cases hm⟩
theorem gu.flag {B:qO} {r:Row} (R:gu P w D ι B r) (b:Bool):gu P w D ι B {r with w:=b}:=⟨R.sz,R.flat,fun h=>⟨R.sz,(R.row h).vJ,(R.row h).fits,(R.row h).len,R.flat,(R.row h).at_⟩,R.map,R.chan⟩
theorem gu.cells {B:qO} {r:Row} (R:gu P w D ι B r) (h:r.sz<qp):B.k=none:=by
 cases hk:B.k with
 |none=>rfl
 |some m=>
  cases m with
  |map m=>
   have h1:=(R.map m hk).1
   unfold MK.oq at h1
   omega
  |chan c=>
   have h1:=(R.chan c hk).1
   unfold pd at h1
   unfold qp at h
   omega
theorem gu.JU {B:qO} {r:Row} (R:gu P w D ι B r) {c:Array Value} {T:TypeId} {z:Nat×Nat} (h:w.heap[B.b]? =some (.cells c T z)):B.k=none:=by
 cases hk:B.k with
 |none=>rfl
 |some m=>
  cases m with
  |map m=>obtain⟨_,es,c,h3,_⟩:=R.map m hk;rw[h]at h3;cases h3
  |chan c=>obtain⟨_,buf,s,q,h3,_⟩:=R.chan c hk;rw[h]at h3;cases h3
theorem gu.lt {B:qO} {r:Row} (R:gu P w D ι B r):B.b<w.heap.size:=by
 cases h:B.k with
 |none=>
  obtain⟨c,T,h3,_⟩:=(R.row h).vJ
  exact(Array.getElem?_eq_some_iff.1 h3).1
 |some m=>
  cases m with
  |map m=>obtain⟨_,es,c,h3,_⟩:=R.map m h;exact(Array.getElem?_eq_some_iff.1 h3).1
  |chan c=>obtain⟨_,buf,s,q,h3,_⟩:=R.chan c h;exact(Array.getElem?_eq_some_iff.1 h3).1
structure fR (P:Program) (hs:Nat) (D:Nat->Prop) (ι:Names) (g:Rows) (w:World):Prop where
 lo:hs<=w.heap.size
 dead:∀b,D b->b<w.heap.size
 row:∀id r,g id=some r->∃B,ι id=some B/\gu P w D ι B r/\(r.w=true->hs<=B.b)/\(r.w=true->¬D B.b)
 inj:∀id jB r r' B B',g id=some r->g jB=some r'->r.w=true->ι id=some B->ι jB=some B'->B.b=B'.b->id=jB
def Used (ι:Names) (n:Nat) (U:Nat->Prop):Prop:=∀id,ι id≠none->id.bQ<n∨(id.bQ=n/\U id.site)
structure Step (hs:Nat) (D:Nat->Prop) (ι:Names) (w:World) (D':Nat->Prop) (ι':Names) (w':World):Prop where
 below:Below hs w w'
 pB:∀b,D b->w'.heap[b]? =w.heap[b]?
 dead:∀b,D b->D' b
 names:∀id B,ι id=some B->ι' id=some B
 new:∀b,D' b->D b∨hs<=b
theorem Step.refl (hs:Nat) (D:Nat->Prop) (ι:Names) (w:World):Step hs D ι w D ι w:=⟨Below.refl _ _,fun _ _=>rfl,fun _ h=>h,fun _ _ h=>h,fun _ h=>.inl h⟩
theorem Step.trans {hs:Nat} {D D' D'':Nat->Prop} {ι ι' PR:Names} {w w' IU:World} (h:Step hs D ι w D' ι' w') (k:Step hs D' ι' w' D'' PR IU):Step hs D ι w D'' PR IU:=
 ⟨h.below.trans k.below,fun b hb=>(k.pB b (h.dead b hb)).trans (h.pB b hb),fun b hb=>k.dead b (h.dead b hb),fun id B hB=>k.names id B (h.names id B hB),fun b hb=>by
  rcases k.new b hb with hb|hb
  ·exact h.new b hb
  ·exact .inr hb⟩
theorem Step.rep {hs:Nat} {D D':Nat->Prop} {ι ι':Names} {w w':World} (h:Step hs D ι w D' ι' w') {a:AV} {v:Value} (hr:cu P w D ι a v):cu P w' D' ι' a v:=hr.frame h.pB h.dead h.names
theorem de {k n} {v:Value} (h:cu P w D ι (.int k n) v):v=.int k n:=by
 cases h with
 |eD _ _ h=>cases h;rfl
theorem eQ {b} {v:Value} (h:cu P w D ι (.bool b) v):v=.bool b:=by
 cases h with
 |eD _ _ h=>cases h;rfl
theorem fe {s} {v:Value} (h:cu P w D ι (.str s) v):v=.string s:=by
 cases h with
 |eD _ _ h=>cases h;rfl
theorem jN {v:Value} (h:cu P w D ι .b4 v):v=.slice none 0 0:=by
 cases h with
 |eD _ _ h=>cases h;rfl
theorem uL {v:Value} (h:cu P w D ι .iD v):v=.nilFunc:=by
 cases h with
 |eD _ _ h=>cases h;rfl
theorem iw {cs} {v:Value} (h:cu P w D ι (.agg cs) v):∃(vs:Array Value) (f:Nat->Value),v=.agg vs/\vs.size=cs.length/\(∀a∈cs,a.cell=true)/\(∀j,j<cs.length->vs[j]? =some (f j))/\∀j a,cs[j]? =some a->cu P w D ι a (f j):=by
 cases h with
 |eD _ _ h=>
  cases h with
  |agg cs vs f h1 h2 h3 h4=>exact⟨vs,f,rfl,h1,h2,h3,fun j a h=>.eD _ _ (h4 j a h)⟩
 |agg cs vs f h1 h2 h3 h4=>exact⟨vs,f,rfl,h1,h2,h3,h4⟩
theorem tp {cs} {v:Value} (h:cu P w D ι (.gn cs) v):∃(vs:Array Value) (f:Nat->Value),v=.tuple vs/\vs.size=cs.length/\(∀j,j<cs.length->vs[j]? =some (f j))/\∀j a,cs[j]? =some a->cu P w D ι a (f j):=by
 cases h with
 |eD _ _ h=>cases h
 |gn cs vs f h1 h2 h3=>exact⟨vs,f,rfl,h1,h2,h3⟩
theorem yJ {f cC} {v:Value} (h:cu P w D ι (.fn f cC) v):∃(vs:Array Value) (g:Nat->Value),v=.func (.func f) #[] vs/\fu P f=true/\vs.size=cC.length/\(∀j,j<cC.length->vs[j]? =some (g j))/\∀j a,cC[j]? =some a->cu P w D ι a (g j):=by
 cases h with
 |eD _ _ h=>
  cases h with
  |fn f cC vs g h1 h2 h3 h4=>exact⟨vs,g,rfl,h1,h2,h3,fun j a h=>.eD _ _ (h4 j a h)⟩
 |fn f cC vs g h1 h2 h3 h4=>exact⟨vs,g,rfl,h1,h2,h3,h4⟩
theorem HO {v:Value} (h:cu P w D ι .gD v):v=.pointer none:=by
 cases h with
 |eD _ _ h=>cases h;rfl
theorem AL {v:Value} (h:cu P w D ι .iQ v):v=.map none:=by
 cases h with
 |eD _ _ h=>cases h;rfl
theorem J8 {f cC} {v:Value} (h:cu P w D ι (.sC f cC) v):∃(vs:Array Value) (g:Nat->Value),v=.func (.func f) vs #[]/\fu P f=true/\vs.size=cC.length/\(∀j,j<cC.length->vs[j]? =some (g j))/\∀j a,cC[j]? =some a->cu P w D ι a (g j):=by
 cases h with
 |eD _ _ h=>cases h
 |sC f cC vs g h1 h2 h3 h4=>exact⟨vs,g,rfl,h1,h2,h3,h4⟩
theorem iy {id off len} {v:Value} (h:cu P w D ι (.own id off len) v):∃o cap B,v=.slice (some ⟨B.b,o,none⟩) len cap/\ι id=some B/\len<=cap/\(cap=0∨o=off*B.sz)/\(off+cap)*B.sz<=B.C/\cap<=maxLen/\B.k=none:=by
 cases h with
 |eD _ _ h=>cases h
 |own id off len o cap B h1 h2 h3 h4 h5 h6=>exact⟨o,cap,B,rfl,h1,h3,h4,h5,h6,h2⟩
theorem gZ {id i off} {v:Value} (h:cu P w D ι (.ptr id i off) v):∃B,v=.pointer (some ⟨B.b,i*B.sz+off,none⟩)/\ι id=some B/\B.k=none:=by
 cases h with
 |eD _ _ h=>cases h
 |ptr id i off B h1 h2=>exact⟨B,rfl,h1,h2⟩
theorem J6 {id} {v:Value} (h:cu P w D ι (.p7 id) v):∃B c,v=.chan (some B.b)/\ι id=some B/\B.k=some (.chan c):=by
 cases h with
 |eD _ _ h=>cases h
 |p7 id c B h1 h2=>exact⟨B,c,rfl,h1,h2⟩
theorem DL {id m} {v:Value} (h:cu P w D ι (.map id m) v):∃B,v=.map (some B.b)/\ι id=some B/\B.k=some (.map m):=by
 cases h with
 |eD _ _ h=>cases h
 |map id m B h1 h2=>exact⟨B,rfl,h1,h2⟩
theorem ko {cs} {v:Value} (h:cu P w D ι (.cI cs) v):∃b o,∃vs:Nat->Value,v=.pointer (some ⟨b,o,none⟩)/\D b/\(∀a∈cs,a.cell=true)/\(∀j,j<cs.length->w.cell? ⟨b,o+j,none⟩=some (vs j))/\∀j a,cs[j]? =some a->jh P w D a (vs j):=by
 cases h with
 |eD _ _ h=>
  cases h with
  |cI cs b o vs h1 h2 h3 h4=>exact⟨b,o,vs,rfl,h1,h2,h3,h4⟩
theorem uM {rows} {v:Value} (h:cu P w D ι (.sl rows) v):∃A c,v=.slice A rows.length c/\rows.length<=c/\c<=maxLen/\
  (rows=[]∨∃b o sz,∃vs:Nat->Nat->Value,A=some ⟨b,o,none⟩/\D b/\(∀cs∈rows,cs.length=sz)/\(∀cs∈rows,∀a∈cs,a.cell=true)/\
   (∀i j,i<rows.length->j<sz->w.cell? ⟨b,o+(i*sz+j),none⟩=some (vs i j))/\∀i j cs a,rows[i]? =some cs->cs[j]? =some a->jh P w D a (vs i j)):=by
 cases h with
 |eD _ _ h=>
  cases h with
  |zm a c h=>exact⟨a,c,rfl,Nat.zero_le _,h,.inl rfl⟩
  |sl rows b o n c sz vs h1 h2 h3 h4 h5 h5' h6 h7=>subst h1;exact⟨_,c,rfl,h2,h3,.inr ⟨b,o,sz,vs,rfl,h4,h5,h5',h6,h7⟩⟩
inductive eu:AV->Prop
 |int (k n):eu (.int k n)
 |bool (b):eu (.bool b)
 |str (s):eu (.str s)
 |b4:eu .b4
 |gD:eu .gD
 |iD:eu .iD
 |sl (rows):rows.length<=maxLen->(∀cs∈rows,∀a∈cs,eu a)->eu (.sl rows)
 |own (id off len):eu (.own id off len)
 |ptr (id i off):eu (.ptr id i off)
 |cI (cs):(∀a∈cs,eu a)->eu (.cI cs)
 |agg (cs):(∀a∈cs,eu a)->eu (.agg cs)
 |gn (cs):(∀a∈cs,eu a)->eu (.gn cs)
 |fn (f cC):(∀a∈cC,eu a)->eu (.fn f cC)
 |map (id m):eu (.map id m)
 |p7 (id):eu (.p7 id)
 |iQ:eu .iQ
 |sC (f cC):(∀a∈cC,eu a)->eu (.sC f cC)
theorem eu.len {rows:List (List AV)} (h:eu (.sl rows)):rows.length<=9223372036854775807:=by
 cases h with
 |sl _ h _=>unfold maxLen at h;omega
theorem eu.cell {rows:List (List AV)} (h:eu (.sl rows)) {cs:List AV} (hc:cs∈rows) {a:AV} (ha:a∈cs):eu a:=by
 cases h with
 |sl _ _ h=>exact h cs hc a ha
theorem eu.Lj {cs:List AV} (h:eu (.agg cs)) {a:AV} (ha:a∈cs):eu a:=by
 cases h with
 |agg _ h=>exact h a ha
theorem eu.Al {cs:List AV} (h:eu (.cI cs)) {a:AV} (ha:a∈cs):eu a:=by
 cases h with
 |cI _ h=>exact h a ha
theorem nN {l:List AV} {p:AV->Prop} (h:∀(j:Nat) (a:AV),l[j]? =some a->p a):∀a∈l,p a:=fun a ha=>by
 obtain⟨j,hj,rfl⟩:=List.getElem_of_mem ha
 exact h j _ (List.getElem?_eq_getElem hj)
theorem jh.Ho {a:AV} {v:Value} (h:jh P w D a v):eu a:=by
 induction h with
 |int k n=>exact .int k n
 |bool b=>exact .bool b
 |str s=>exact .str s
 |b4=>exact .b4
 |gD=>exact .gD
 |iD=>exact .iD
 |iQ=>exact .iQ
 |zm a c h=>exact .sl [] (Nat.zero_le _) (fun cs h=>by cases h)
 |sl rows b o n c sz vs h1 h2 h3 h4 h5 h5' h6 _ ih=>
  exact .sl rows (by omega) fun cs dn a ha=>by
   obtain⟨i,hi,rfl⟩:=List.getElem_of_mem dn
   obtain⟨j,hj,rfl⟩:=List.getElem_of_mem ha
   exact ih i j _ _ (List.getElem?_eq_getElem hi) (List.getElem?_eq_getElem hj)
 |cI cs b o vs h1 LH h2 _ ih=>exact .cI cs (nN ih)
 |agg cs vs f h1 h2 h3 _ ih=>exact .agg cs (nN ih)
 |fn f cC vs g h1 h2 h3 _ ih=>exact .fn f cC (nN ih)
theorem cu.Ho {a:AV} {v:Value} (h:cu P w D ι a v):eu a:=by
 induction h with
 |eD a v h=>exact h.Ho
 |own id off len o cap B=>exact .own _ _ _
 |ptr id i off B=>exact .ptr _ _ _
 |map id m B=>exact .map _ _
 |p7 id c B=>exact .p7 _
 |agg cs vs f h1 h2 h3 _ ih=>exact .agg cs (nN ih)
 |gn cs vs f h1 h2 _ ih=>exact .gn cs (nN ih)
 |fn f cC vs g h1 h2 h3 _ ih=>exact .fn f cC (nN ih)
 |sC f cC vs g h1 h2 h3 _ ih=>exact .sC f cC (nN ih)
end Go.Proofs.YtgoelphibofcmaaGreat.V

namespace Go.Proofs.YtgoelphibofcmaaGreat.V
open Go.RowKit
variable {P:Program} {w w':World} {D D':Nat->Prop} {ι ι':Names}
def bJ (P:Program) (w:World) (D:Nat->Prop) (ι:Names) (env:Env) (a:Act):Prop:=∀t,cu P w D ι (env t) (a.tmps.getD t undef)
theorem qn {vs:List Value} {cs:List K} (h:vs.mapM EN=some cs):cs.length=vs.length/\∀(j:Nat) (c:K),cs[j]? =some c->vs[j]? =some c.val:=by
 induction vs generalizing cs with
 |nil=>simp at h;subst h;simp
 |cons v r ih=>
  simp only[List.mapM_cons,Option.bind_eq_bind,Option.bind_eq_some_iff]at h
  obtain⟨c,hc,oP,dn,h⟩:=h
  simp at h;subst h
  obtain⟨h1,h2⟩:=ih dn
  refine⟨by simp[h1],fun j d hd=>?_⟩
  cases j with
  |zero=>simp at hd ⊢;subst hd;exact yn hc
  |succ j=>simp at hd ⊢;exact h2 j d hd
theorem Sw {vs:List Value} {cs:List K} (h:vs.mapM EN=some cs):cu P w D ι (.agg (cs.map K.av)) (.agg vs.toArray):=by
 obtain⟨h1,h2⟩:=qn h
 refine .agg _ _ (fun j=>vs.getD j undef) (by simp[h1]) (fun a ha=>?_) (fun j hj=>?_) (fun j a ha=>?_)
 ·obtain⟨c,_,rfl⟩:=List.mem_map.1 ha;exact c.lX
 ·simp at hj;simp[List.getElem?_eq_getElem (show j<vs.length by omega)]
 ·simp only[List.getElem?_map,Option.map_eq_some_iff]at ha
  obtain⟨c,hc,rfl⟩:=ha
  rw[List.getD_eq_getElem?_getD,h2 j c hc];exact uK c
theorem db {env:Env} {a:Act} {x:Operand} {y:O} (E:bJ P w D ι env a) (h:cO P x=some y):cu P w D ι (cF env y) (a.eval x):=by
 unfold cO at h
 split at h
 ·simp at h;subst h;exact E _
 ·simp only[Option.map_eq_some_iff]at h
  obtain⟨cs,dn,rfl⟩:=h
  have:=Sw (P:=P) (w:=w) (D:=D) (ι:=ι) dn
  simpa[Act.eval,cF]using this
 ·simp only[Option.map_eq_some_iff]at h
  obtain⟨c,hc,rfl⟩:=h
  simp only[Act.eval,cF]
  rw[yn hc];exact uK c
 ·simp at h
 ·split at h
  ·rename_i hc
   simp at h;subst h
   simp only[Act.eval,cF]
   exact .fn _ _ _ (fun _=>undef) hc rfl (fun j hj=>by simp at hj) (fun j a h=>by simp at h)
  ·simp at h
def nr (P:Program) (a:Act) (o:Oper) (w:World) (D:Nat->Prop) (ι:Names) (v:AV):Prop:=∃u,(execOp a.eval o).run P w=.ok (.value u) w/\cu P w D ι v u
section
variable {g:Rows} {hs:Nat} {env:Env} {a:Act} {o:Oper} {id:Id} {v:AV}
theorem K4 {x:Operand} {y:O} (E:bJ P w D ι env a) (ho:o.op=.move x∨o.op=.assign x) (hx:cO P x=some y):nr P a o w D ι (cF env y):=by
 refine⟨a.eval x,?_,db E hx⟩
 rcases ho with h|h<;>simp[execOp,h,go_sem]
theorem Ng {c x y:Operand} {c' x' y':O} (E:bJ P w D ι env a) (ho:o.op=.pick c x y) (hc:cO P c=some c') (hx:cO P x=some x') (hy:cO P y=some y') (hv:cY (cF env c') (cF env x') (cF env y')=some v):nr P a o w D ι v:=by
 unfold cY at hv
 split at hv
 ·rename_i b hb
  simp at hv;subst hv
  have h1:=eQ (hb▸db E hc)
  refine⟨if b then a.eval x else a.eval y,by simp only[execOp,ho,h1,asBool];rfl,?_⟩
  cases b
  ·exact db E hy
  ·exact db E hx
 ·simp at hv
theorem PF {op:BinOp} {x y:Operand} {x' y':O} {t yt:TypeId} (E:bJ P w D ι env a) (ho:o.op=.binOp op t x y yt) (he:op≠.eql) (hn:op≠.neq) (hx:cO P x=some x') (hy:cO P y=some y') (hv:eb op (cF env x') (cF env y')=some v):nr P a o w D ι v:=by
 unfold eb at hv
 split at hv
 ·rename_i k n k' m hb rm
  split at hv
  ·rename_i hk
   subst hk
   have h1:=de (hb▸db E hx)
   have h2:=de (rm▸db E hy)
   have key:∀u,(binOp op t (.int k n) (.int k m)).run P w=.ok u w->(execOp a.eval o).run P w=.ok (.value u) w:=fun u hu=>by
    have e0:eqGuard op t x y (.int k n) (.int k m)=pure ():=by unfold eqGuard;cases op<;>rfl
    simp only[execOp,ho,h1,h2,e0]
    simp[go_sem,hu]
   cases op<;>simp only[dz]at hv<;>(try(simp at hv;done))<;>(try split at hv)<;>(try(simp at hv;done))<;>simp only[Option.some.injEq]at hv<;>subst hv<;>
    (refine⟨_,key _ (by simp only[binOp,ne_eq,not_true_eq_false,if_false,Op.intArith,Op.intDiv,Op.intBits,Op.intCmp, *];rfl),?_⟩)<;>
    first
     |exact .eD _ _ (.int _ _)
     |exact .eD _ _ (.bool _)
  ·simp at hv
 ·simp at hv
theorem M0 {op:BinOp} {x y:Operand} {x' y':O} {t yt:TypeId} (E:bJ P w D ι env a) (ho:o.op=.binOp op t x y yt) (he:op≠.eql) (hn:op≠.neq) (hx:cO P x=some x') (hy:cO P y=some y') (hv:cZ op (cF env x') (cF env y')=some v):nr P a o w D ι v:=by
 unfold cZ at hv
 split at hv
 ·rename_i n m hb rm
  have h1:=fe (hb▸db E hx)
  have h2:=fe (rm▸db E hy)
  cases op<;>simp only[er]at hv<;>(try(simp at hv;done))
  case add=>
   split at hv
   ·rename_i hl
    simp only[Option.some.injEq]at hv;subst hv
    exact⟨_,by simp only[execOp,ho,h1,h2];simp[eqGuard,binOp,go_sem];exact hl,.eD _ _ (.str _)⟩
   ·simp at hv
  all_goals
   simp only[Option.some.injEq]at hv;subst hv
   exact⟨_,by simp only[execOp,ho,h1,h2];simp[eqGuard,binOp,Op.stringOp,go_sem],.eD _ _ (.bool _)⟩
 ·simp at hv
theorem DP (n m:ByteArray):(n.toList==m.toList)=decide (n=m):=by
 rw[ByteArray.toList_eq,ByteArray.toList_eq]
 by_cases h:n=m
 ·subst h;simp
 ·have:n.data.toList≠m.data.toList:=fun he=>h (ByteArray.ext (Array.ext' he))
  rw[decide_eq_false h];exact beq_eq_false_iff_ne.2 this
theorem ou {t:TypeId} (h:eX P t=some .tB):P.underlying t=some .bool:=by unfold eX at h;split at h<;>simp_all
theorem ow {t:TypeId} (h:eX P t=some .tI):∃k,P.underlying t=some (.int k):=by unfold eX at h;split at h<;>simp_all
theorem ox {t:TypeId} (h:eX P t=some .tS):P.underlying t=some .string:=by unfold eX at h;split at h<;>simp_all
theorem qz {d:Nat} {t:TypeId} {s:TS} {x y:AV} {u u':Value} {b:Bool} (hx:cu P w D ι x u) (hy:cu P w D ι y u') (hv:fS s x y=some b) (ht:eX P t=some s):(Op.equalIn (d+1) t u u').run P w=.ok b w:=by
 unfold fS at hv
 split at hv
 ·rename_i k n k' m
  split at hv
  ·rename_i hk
   subst hk
   simp at hv;subst hv
   obtain⟨q,hq⟩:=ow ht
   rw[de hx,de hy,run_equalIn_int _ _ _ _ _ _ _ hq];rfl
  ·simp at hv
 ·simp at hv;subst hv
  rw[eQ hx,eQ hy,run_equalIn_bool' _ _ _ _ _ (ou ht)]
 ·simp at hv;subst hv
  rw[fe hx,fe hy,run_equalIn_string _ _ _ _ _ (ox ht),DP]
 ·simp at hv
def e6 (P:Program) (w:World) (D:Nat->Prop) (ι:Names) (xs:List AV) (vs:Array Value):Prop:=vs.size=xs.length/\∀(j:Nat) (a:AV),xs[j]? =some a->∃u,vs[j]? =some u/\cu P w D ι a u
theorem e6.part {xs:List AV} {vs:Array Value} (h:e6 P w D ι xs vs) (off n:Nat) (hn:off+n<=xs.length):e6 P w D ι ((xs.drop off).take n) (vs.extract off (off+n)):=by
 refine⟨by simp[h.1];omega,fun j a ha=>?_⟩
 rw[List.getElem?_take]at ha
 split at ha
 ·rename_i hj
  rw[List.getElem?_drop]at ha
  obtain⟨u,h1,h2⟩:=h.2 _ _ ha
  refine⟨u,?_,h2⟩
  rw[Array.getElem?_extract]
  rw[if_pos (by rw[h.1];omega),h1]
 ·simp at ha
theorem qb:∀{ts:List TS} {xs ys:List AV} {b:Bool},eU ts xs ys=some b->xs.length=ts.length/\ys.length=ts.length
 |[],[],[],_,_=>⟨rfl,rfl⟩
 |t::ts,x::xs,y::ys,b,h=>by
  unfold eU at h
  split at h
  ·rename_i c d h1 h2
   have:=qb h2
   simp[this.1,this.2]
  ·simp at h
 |[],[],_::_,_,h=>by simp[eU]at h
 |[],_::_,_,_,h=>by simp[eU]at h
 |_::_,[],_,_,h=>by simp[eU]at h
 |_::_,_::_,[],_,h=>by simp[eU]at h
theorem Dd:∀{ts us:List TS} {xs ys:List AV} {b:Bool},eU (ts++us) xs ys=some b->∃c d,eU ts (xs.take ts.length) (ys.take ts.length)=some c/\eU us (xs.drop ts.length) (ys.drop ts.length)=some d/\b=(c&&d)
 |[],us,xs,ys,b,h=>⟨true,b,by simp[eU],by simpa using h,by simp⟩
 |t::ts,us,x::xs,y::ys,b,h=>by
  simp only[List.cons_append]at h
  unfold eU at h
  split at h
  ·rename_i c d h1 h2
   obtain⟨c',d',h3,h4,rfl⟩:=Dd h2
   simp at h;subst h
   exact⟨c&&c',d',by simp[eU,h1,h3],by simpa using h4,by simp[Bool.and_assoc]⟩
  ·simp at h
 |t::ts,us,[],ys,b,h=>by simp[eU]at h
 |t::ts,us,x::xs,[],b,h=>by simp[eU]at h
theorem lL {t:TypeId} {vs:Array Value} {off:Nat} {u:Value} (ha:mL P t=some false) (hu:vs[off]? =some u):(Go.part t vs off).run P w=.ok u w:=by
 unfold mL at ha
 have hi:(isAgg t).run P w=.ok false w:=by
  split at ha<;>simp at ha
  rename_i d h1 h2 hd
  simp only[isAgg,Sem.run_bind,run_underlying hd,Result.andThen_ok]
  cases d<;>simp_all
 simp[Go.part,hi,hu]
theorem rP {t:TypeId} {b:Bool} (ha:mL P t=some b):(isAgg t).run P w=.ok b w:=by
 unfold mL at ha
 split at ha<;>simp at ha<;>subst ha<;>rename_i hd<;>simp only[isAgg,Sem.run_bind,run_underlying hd,Result.andThen_ok]<;>(try simp)
theorem run_sizeOf {t:TypeId} {n:Nat} (h:dK P t=some n):(sizeOf t).run P w=.ok n w:=by
 unfold dK at h
 simp only[Option.map_eq_some_iff]at h
 obtain⟨i,hi,rfl⟩:=h
 simp[sizeOf,typeInfo,hi]
theorem ot {t:TypeId} {vs:Array Value} {off n:Nat} (ha:mL P t=some true) (hn:dK P t=some n):(Go.part t vs off).run P w=.ok (.agg (vs.extract off (off+n))) w:=by
 simp[Go.part,rP ha,run_sizeOf hn]
theorem GD (d off:Nat):ez P (d+1) off []=some []:=rfl
theorem wL (d off:Nat) (f:Field) (r:List Field):ez P (d+1) off (f::r)=(if f.offset=off/\f.name≠ "_" then
   match eX P f.type with
   |some t=>if mL P f.type=some false then(ez P (d+1) (off+1) r).map (t::·)else none
   |none=>match P.underlying f.type with
    |some (.struct fs)=>if !P.stoodInHeld f.type then match ez P d 0 fs.toList with
     |some ts=>if dK P f.type=some ts.length/\ts≠[]then(ez P (d+1) (off+ts.length) r).map (ts++·)else none
     |none=>none else none
    |_=>none
  else none):=rfl
theorem qy:∀(d:Nat) (fs:List Field) (off:Nat) (ts:List TS),ez P d off fs=some ts->∀(N:Nat) (_:d<=N) (xs ys:List AV) (vs us:Array Value) (b:Bool),e6 P w D ι xs vs->e6 P w D ι ys us->
  eU ts ((xs.drop off).take ts.length) ((ys.drop off).take ts.length)=some b->(Op.eqFields (N+1) vs us fs).run P w=.ok b w:=by
 intro d
 induction d with
 |zero=>
  intro fs off ts hf N _ xs ys vs us b _ _ he
  cases fs with
  |nil=>simp[ez]at hf;subst hf;simp[eU]at he;subst he;simp[Op.eqFields]
  |cons f r=>simp[ez]at hf
 |succ d ihd=>
  intro fs
  induction fs with
  |nil=>
   intro off ts hf N _ xs ys vs us b _ _ he
   rw[GD]at hf;simp at hf;subst hf;simp[eU]at he;subst he;simp[Op.eqFields]
  |cons f r ih=>
   intro off ts hf N hN xs ys vs us b hx hy he
   rw[wL]at hf
   split at hf
   ·rename_i hcond
    obtain⟨ho,gI⟩:=hcond
    split at hf
    ·rename_i s hs
     split at hf
     ·rename_i tb
      simp only[Option.map_eq_some_iff]at hf
      obtain⟨K2,hr,rfl⟩:=hf
      obtain⟨l1,l2⟩:=qb he
      simp only[List.length_cons,List.length_take,List.length_drop]at l1 l2
      have FP:off<xs.length:=by omega
      have hyo:off<ys.length:=by omega
      rw[List.drop_eq_getElem_cons FP,List.drop_eq_getElem_cons hyo,List.length_cons,List.take_succ_cons,List.take_succ_cons]at he
      unfold eU at he
      split at he
      ·rename_i c d' h1 h2
       simp at he;subst he
       obtain⟨u,hu,ru⟩:=hx.2 off _ (List.getElem?_eq_getElem FP)
       obtain⟨u',Du,ru'⟩:=hy.2 off _ (List.getElem?_eq_getElem hyo)
       have:=ih (off+1) K2 hr N hN xs ys vs us d' hx hy h2
       simp only[Op.eqFields,if_pos gI,Sem.run_bind,ho,lL tb hu,lL tb Du,Result.andThen_ok,qz ru ru' h1 hs,Sem.run_ite]
       cases c<;>simp[this]
      ·simp at he
     ·simp at hf
    ·split at hf
     ·rename_i fs' qd
      split at hf
      ·rename_i dv
       split at hf
       ·rename_i ts1 hts1
        split at hf
        ·rename_i eW
         simp only[Option.map_eq_some_iff]at hf
         obtain⟨K2,hr,rfl⟩:=hf
         obtain⟨c,d',h1,h2,rfl⟩:=Dd he
         obtain⟨l1,l2⟩:=qb he
         simp only[List.length_append,List.length_take,List.length_drop]at l1 l2
         have tb:mL P f.type=some true:=by simp[mL,qd]
         have jU:0<ts1.length:=List.length_pos_iff.2 eW.2
         have KR:off+ts1.length<=xs.length:=by omega
         have hy1:off+ts1.length<=ys.length:=by omega
         rw[List.drop_take,List.drop_drop,List.drop_take,List.drop_drop]at h2
         rw[List.take_take,List.take_take]at h1
         simp only[List.length_append]at h1 h2
         rw[Nat.min_eq_left (by omega)]at h1
         have e2:ts1.length+K2.length-ts1.length=K2.length:=by omega
         rw[e2]at h2
         have:=ih (off+ts1.length) K2 hr N hN xs ys vs us d' hx hy h2
         have e9:=ihd fs'.toList 0 ts1 hts1 (N-1) (by omega) _ _ _ _ c (hx.part off ts1.length KR) (hy.part off ts1.length hy1) (by simpa[List.take_take]using h1)
         have hN':N-1+1=N:=by omega
         rw[hN']at e9
         have GR:P.fieldsOf f.type=fs':=by simp[Program.fieldsOf,qd]
         simp only[Op.eqFields,if_pos gI,Sem.run_bind,ho,ot tb eW.1,Result.andThen_ok,Sem.run_ite]
         rw[run_equalIn_struct w N f.type _ _ (by rw[GR];exact qd) (by simpa using dv),GR,e9]
         cases c<;>simp[this]
        ·simp at hf
       ·simp at hf
      ·simp at hf
     ·simp at hf
   ·simp at hf
theorem PJ {x y:Operand} {x' y':O} {t yt:TypeId} {neg:Bool} {s:TS} {b:Bool} (E:bJ P w D ι env a) (ho:o.op=.binOp (if neg then .neq else .eql) t x y yt) (hs:eX P t=some s) (hx:cO P x=some x') (hy:cO P y=some y')
  (hv:fS s (cF env x') (cF env y')=some b):nr P a o w D ι (.bool (dp neg b)):=by
 have rx:=db E hx
 have ry:=db E hy
 refine⟨.bool (dp neg b),?_,.eD _ _ (.bool _)⟩
 have e0:(eqGuard (if neg then .neq else .eql) t x y (a.eval x) (a.eval y)).run P w=.ok () w:=by
  unfold fS at hv
  split at hv
  ·rename_i k n k' m h1 h2
   rw[h1]at rx;rw[h2]at ry
   rw[de rx,de ry];unfold eqGuard;cases neg<;>simp
  ·rename_i n m h1 h2
   rw[h1]at rx;rw[h2]at ry
   rw[eQ rx,eQ ry];unfold eqGuard;cases neg<;>simp
  ·rename_i n m h1 h2
   rw[h1]at rx;rw[h2]at ry
   rw[fe rx,fe ry];unfold eqGuard;cases neg<;>simp
  ·simp at hv
 have e1:(binOp (if neg then .neq else .eql) t (a.eval x) (a.eval y)).run P w=.ok (.bool (dp neg b)) w:=by
  have q:=qz (d:=9999) rx ry hv hs
  unfold fS at hv
  split at hv
  ·rename_i k n k' m h1 h2
   split at hv
   ·rename_i hk
    subst hk
    simp at hv;subst hv
    rw[h1]at rx;rw[h2]at ry
    rw[de rx,de ry]
    cases neg<;>simp only[binOp,ne_eq,not_true_eq_false,if_false,Op.intCmp,dp,if_true,Bool.false_eq_true]<;>simp[bne]<;>rfl
   ·simp at hv
  ·rename_i n m h1 h2
   rw[h1]at rx;rw[h2]at ry
   rw[eQ rx,eQ ry]at q ⊢
   cases neg<;>simp only[binOp,dp,if_true,Bool.false_eq_true,if_false,Sem.run_bind]<;>simp[Op.equal,Op.maxDepth,q]
  ·rename_i n m h1 h2
   simp at hv;subst hv
   rw[h1]at rx;rw[h2]at ry
   rw[fe rx,fe ry]
   cases neg<;>simp[binOp,Op.stringOp,dp,DP]
  ·simp at hv
 simp only[execOp,ho,Sem.run_bind,e0,e1,Result.andThen_ok,Sem.run_pure]
theorem PH {x y:Operand} {x' y':O} {t yt:TypeId} {neg:Bool} {ts:List TS} {fs:Array Field} {xs ys:List AV} {b:Bool} (E:bJ P w D ι env a) (ho:o.op=.binOp (if neg then .neq else .eql) t x y yt) (qd:P.underlying t=some (.struct fs)) (dv:P.stoodInHeld t=false) (Jm:P.eqGuardType P.depth t=false)
  (vZ:ez P 4 0 fs.toList=some ts) (hx:cO P x=some x') (hy:cO P y=some y') (h1:cF env x'=.agg xs) (h2:cF env y'=.agg ys)
  (hv:eU ts xs ys=some b):nr P a o w D ι (.bool (dp neg b)):=by
 obtain⟨vs,f,rx,n1,_,f1,r1⟩:=iw (h1▸db E hx)
 obtain⟨us,f',ry,n2,_,f2,r2⟩:=iw (h2▸db E hy)
 refine⟨.bool (dp neg b),?_,.eD _ _ (.bool _)⟩
 obtain⟨l1,l2⟩:=qb hv
 have L:∀(xs:List AV) (vs:Array Value) (f:Nat->Value),vs.size=xs.length->(∀j,j<xs.length->vs[j]? =some (f j))->(∀j a,xs[j]? =some a->cu P w D ι a (f j))->e6 P w D ι xs vs:=fun xs vs f h1 h2 h3=>
  ⟨h1,fun j a ha=>⟨f j,h2 j (List.getElem?_eq_some_iff.1 ha).1,h3 j a ha⟩⟩
 have q:=qy (w:=w) 4 fs.toList 0 ts vZ 9998 (by omega) xs ys vs us b (L _ _ _ n1 f1 r1) (L _ _ _ n2 f2 r2) (by simpa[List.take_of_length_le,l1,l2]using hv)
 have GR:P.fieldsOf t=fs:=by simp[Program.fieldsOf,qd]
 have q2:(Op.equal t (.agg vs) (.agg us)).run P w=.ok b w:=by
  unfold Op.equal
  rw[show Op.maxDepth=9999+1 from rfl,run_equalIn_struct w 9999 t _ _ (by rw[GR];exact qd) dv,GR,q]
 simp only[execOp,ho,Sem.run_bind,rx,ry,run_eqGuard_agg w _ _ _ _ _ _ Jm,Result.andThen_ok]
 cases neg<;>simp[binOp,q2,dp]
theorem M4 {x:Operand} {x':O} {t yt e:TypeId} {neg:Bool} {b:Bool} (E:bJ P w D ι env a) (ho:o.op=.binOp (if neg then .neq else .eql) t x (.const (.slice none 0 0)) yt) (ht:P.underlying t=some (.slice e)) (hx:cO P x=some x')
  (hv:cX (cF env x')=some b):nr P a o w D ι (.bool (dp neg b)):=by
 have hr:=db E hx
 have rx:∃A n c,a.eval x=.slice A n c/\b=A.isNone:=by
  unfold cX at hv
  split at hv<;>simp at hv<;>subst hv<;>rename_i hh
  ·rw[hh]at hr;exact⟨_,_,_,jN hr,rfl⟩
  ·rw[hh]at hr;obtain⟨o,cap,B,h,_⟩:=iy hr
   exact⟨_,_,_,h,rfl⟩
  ·rw[hh]at hr
   obtain⟨A,c,h',_,_,h⟩:=uM hr
   rcases h with h|⟨b,o,sz,vs,rfl,_⟩
   ·simp at h
   ·exact⟨_,_,_,h',rfl⟩
 refine⟨.bool (dp neg b),?_,.eD _ _ (.bool _)⟩
 obtain⟨A,n,c,h,rfl⟩:=rx
 have hq:(Op.equal t (.slice A n c) (.slice none 0 0)).run P w=.ok A.isNone w:=by
  unfold Op.equal
  rw[show Op.maxDepth=9999+1 from rfl,Op.equalIn]
  simp only[Sem.run_bind,run_underlying ht,Result.andThen_ok]
  cases A<;>rfl
 have hc:a.eval (.const (.slice none 0 0))=.slice none 0 0:=rfl
 simp only[execOp,ho,h,hc]
 cases neg<;>simp only[Bool.false_eq_true,if_false,if_true,Bool.not_true,Bool.not_false,eqGuard,binOp,dp,Sem.run_bind,hq,Result.andThen_ok,Sem.run_pure]
theorem PI {x:Operand} {x':O} {t yt e:TypeId} {neg:Bool} {b:Bool} (E:bJ P w D ι env a) (ho:o.op=.binOp (if neg then .neq else .eql) t x (.const (.pointer none)) yt) (ht:P.underlying t=some (.pointer e)) (hx:cO P x=some x')
  (hv:Is (cF env x')=some b):nr P a o w D ι (.bool (dp neg b)):=by
 have hr:=db E hx
 have rx:∃A,a.eval x=.pointer A/\b=A.isNone:=by
  unfold Is at hv
  split at hv<;>simp at hv<;>subst hv<;>rename_i hh
  ·rw[hh]at hr;exact⟨_,HO hr,rfl⟩
  ·rw[hh]at hr;obtain⟨B,h,_⟩:=gZ hr
   exact⟨_,h,rfl⟩
  ·rw[hh]at hr;obtain⟨_,_,_,h,_⟩:=ko hr
   exact⟨_,h,rfl⟩
 refine⟨.bool (dp neg b),?_,.eD _ _ (.bool _)⟩
 obtain⟨A,h,rfl⟩:=rx
 have hq:(Op.equal t (.pointer A) (.pointer none)).run P w=.ok A.isNone w:=by
  unfold Op.equal
  rw[show Op.maxDepth=9999+1 from rfl,Op.equalIn]
  simp only[Sem.run_bind,run_underlying ht,Result.andThen_ok]
  cases A<;>rfl
 have hc:a.eval (.const (.pointer none))=.pointer none:=rfl
 simp only[execOp,ho,h,hc]
 cases neg<;>simp only[Bool.false_eq_true,if_false,if_true,Bool.not_true,Bool.not_false,eqGuard,binOp,dp,Sem.run_bind,hq,Result.andThen_ok,Sem.run_pure]
theorem M3 {x:Operand} {x':O} {t yt:TypeId} {p r:Array TypeId} {va:Bool} {neg:Bool} {b:Bool} (E:bJ P w D ι env a) (ho:o.op=.binOp (if neg then .neq else .eql) t x (.const .nilFunc) yt) (ht:P.underlying t=some (.func p r va)) (hx:cO P x=some x')
  (hv:cW (cF env x')=some b):nr P a o w D ι (.bool (dp neg b)):=by
 have hr:=db E hx
 have rx:a.eval x=.nilFunc/\b=true∨∃f c,a.eval x=.func f #[] c/\b=false:=by
  unfold cW at hv
  split at hv<;>simp at hv<;>subst hv<;>rename_i hh
  ·rw[hh]at hr;exact .inl ⟨uL hr,rfl⟩
  ·rw[hh]at hr;obtain⟨vs,g,h,_⟩:=yJ hr
   exact .inr ⟨_,_,h,rfl⟩
 refine⟨.bool (dp neg b),?_,.eD _ _ (.bool _)⟩
 have hc:a.eval (.const .nilFunc)=.nilFunc:=rfl
 rcases rx with⟨h,rfl⟩|⟨f,c,h,rfl⟩
 ·have hq:(Op.equal t .nilFunc .nilFunc).run P w=.ok true w:=by
   unfold Op.equal
   rw[show Op.maxDepth=9999+1 from rfl,Op.equalIn]
   simp only[Sem.run_bind,run_underlying ht,Result.andThen_ok]
   rfl
  simp only[execOp,ho,h,hc]
  cases neg<;>simp only[Bool.false_eq_true,if_false,if_true,Bool.not_true,Bool.not_false,eqGuard,binOp,dp,Sem.run_bind,hq,Result.andThen_ok,Sem.run_pure]
 ·have hq:(Op.equal t (.func f #[] c) .nilFunc).run P w=.ok false w:=by
   unfold Op.equal
   rw[show Op.maxDepth=9999+1 from rfl,Op.equalIn]
   simp only[Sem.run_bind,run_underlying ht,Result.andThen_ok]
   rfl
  simp only[execOp,ho,h,hc]
  cases neg<;>simp only[Bool.false_eq_true,if_false,if_true,Bool.not_true,Bool.not_false,eqGuard,binOp,dp,Sem.run_bind,hq,Result.andThen_ok,Sem.run_pure]
theorem PM {x:Operand} {x':O} {t:TypeId} (E:bJ P w D ι env a) (ho:o.op=.unOp .not t x) (hx:cO P x=some x') (hv:ei (cF env x')=some v):nr P a o w D ι v:=by
 have hr:=db E hx
 unfold ei at hv
 split at hv
 ·rename_i b hb
  simp at hv;subst hv
  rw[hb]at hr
  exact⟨_,by simp only[execOp,ho,eQ hr];rfl,.eD _ _ (.bool _)⟩
 ·simp at hv
theorem PL {x:Operand} {x':O} {t:TypeId} (E:bJ P w D ι env a) (ho:o.op=.unOp .neg t x) (hx:cO P x=some x') (hv:ef (cF env x')=some v):nr P a o w D ι v:=by
 have hr:=db E hx
 unfold ef at hv
 split at hv
 ·rename_i k n hb
  simp at hv;subst hv
  rw[hb]at hr
  refine⟨_,by simp only[execOp,ho,de hr];rfl,?_⟩
  rw[Int.zero_sub];exact .eD _ _ (.int _ _)
 ·simp at hv
theorem M1 {x:Operand} {x':O} {s d:TypeId} {k q:IntKind} (E:bJ P w D ι env a) (ho:o.op=.convert s d x) (hs:P.underlying s=some (.int q)) (hd:P.underlying d=some (.int k)) (hx:cO P x=some x') (hv:cL k (cF env x')=some v):nr P a o w D ι v:=by
 have hr:=db E hx
 unfold cL at hv
 split at hv
 ·rename_i k' n hb
  simp at hv;subst hv
  rw[hb]at hr
  refine⟨.int k (k.wrap n),?_,.eD _ _ (.int _ _)⟩
  simp only[execOp,ho,de hr,convert,Sem.run_bind,run_underlying hs,run_underlying hd,Result.andThen_ok,Conv.intToInt,Sem.run_pure]
 ·simp at hv
theorem Kk {x:Operand} {x':O} {s:TypeId} {i:Nat} {fs:Array Field} {f:Field} {m:Nat} (E:bJ P w D ι env a) (ho:o.op=.fieldAddr s x i) (hs:P.underlying s=some (.struct fs)) (hf:fs[i]? =some f) (hm:dK P f.type=some (m+1)) (hx:cO P x=some x')
  (hv:CX f.offset (cF env x')=some v):nr P a o w D ι v:=by
 have hr:=db E hx
 have go:∀b oo,a.eval x=.pointer (some ⟨b,oo,none⟩)->(execOp a.eval o).run P w=.ok (.value (.pointer (some ⟨b,oo+f.offset,none⟩))) w:=fun b oo h=>by
  simp only[execOp,ho,h,Instr.fieldAt,Sem.run_bind,run_underlying hs,Result.andThen_ok,hf,Instr.sureAddr,Sem.run_pure,fieldPlace,run_sizeOf hm,Nat.add_eq_zero_iff,Nat.one_ne_zero,and_false,if_false,Addr.add]
  split
  ·rename_i h0;simp[h0]
  ·rfl
 unfold CX at hv
 split at hv
 ·rename_i jB i' oo hb
  simp at hv;subst hv
  rw[hb]at hr
  obtain⟨B,h,hB,hk⟩:=gZ hr
  refine⟨_,go _ _ h,?_⟩
  rw[Nat.add_assoc]
  exact .ptr _ _ _ _ hB hk
 ·rename_i cs hb
  simp at hv;subst hv
  rw[hb]at hr
  obtain⟨b,oo,vs,h,h1,h2,h3,h4⟩:=ko hr
  refine⟨_,go _ _ h,.eD _ _ (.cI _ _ _ (fun j=>vs (f.offset+j)) h1 (fun a ha=>h2 a (List.mem_of_mem_drop ha)) (fun j hj=>?_) (fun j a ha=>h4 _ _ (by simpa using ha)))⟩
  rw[Nat.add_assoc]
  exact h3 _ (by simp at hj;omega)
 ·simp at hv
theorem Kl {x:Operand} {x':O} {s:TypeId} {i n:Nat} {ag:Bool} {fs:Array Field} {f:Field} (E:bJ P w D ι env a) (ho:o.op=.field s x i) (hs:P.underlying s=some (.struct fs)) (hf:fs[i]? =some f) (tb:mL P f.type=some ag) (hm:dK P f.type=some n) (hx:cO P x=some x')
  (hv:bF ag f.offset n (cF env x')=some v):nr P a o w D ι v:=by
 have hr:=db E hx
 unfold bF at hv
 split at hv
 ·rename_i cs hb
  split at hv
  ·rename_i hl
   rw[hb]at hr
   obtain⟨vs,g,h,n1,fl,f1,r1⟩:=iw hr
   unfold part at hv
   cases ag with
   |true=>
    simp only[if_true]at hv
    split at hv
    ·simp at hv;subst hv
     refine⟨.agg (vs.extract f.offset (f.offset+n)),?_,.agg _ _ (fun j=>g (f.offset+j)) (by simp[n1];omega) (fun a ha=>fl a (List.mem_of_mem_drop (List.mem_of_mem_take ha))) (fun j hj=>?_) (fun j a ha=>?_)⟩
     ·simp only[execOp,ho,h,Instr.field,Sem.run_bind,run_underlying hs,Result.andThen_ok,hf,asAgg,Sem.run_pure,ot tb hm]
     ·simp at hj
      rw[Array.getElem?_extract,if_pos (by omega)];exact f1 _ (by omega)
     ·rw[List.getElem?_take]at ha
      split at ha
      ·exact r1 _ _ (by simpa using ha)
      ·simp at ha
    ·simp at hv
   |false=>
    simp only[Bool.false_eq_true,if_false]at hv
    have mT:cs[f.offset]? =some v:=by simpa[List.head?_drop]using hv
    have dE:=(List.getElem?_eq_some_iff.1 mT).1
    exact⟨g f.offset,by simp only[execOp,ho,h,Instr.field,Sem.run_bind,run_underlying hs,Result.andThen_ok,hf,asAgg,Sem.run_pure,lL tb (f1 _ dE)],r1 _ _ mT⟩
  ·simp at hv
 ·simp at hv
theorem PN {left:Bool} {x y:Operand} {x' y':O} {t yt:TypeId} (E:bJ P w D ι env a) (ho:o.op=.binOp (if left then .shl else .shr) t x y yt) (hx:cO P x=some x') (hy:cO P y=some y') (hv:gT left (cF env x') (cF env y')=some v):nr P a o w D ι v:=by
 unfold gT at hv
 split at hv
 ·rename_i k n k' m hb rm
  split at hv
  ·simp at hv
  ·rename_i hm
   simp at hv;subst hv
   have h1:=de (hb▸db E hx)
   have h2:=de (rm▸db E hy)
   refine⟨_,?_,.eD _ _ (.int _ _)⟩
   simp only[execOp,ho,h1,h2]
   cases left<;>simp only[Bool.false_eq_true,if_false,if_true,eqGuard,Bool.not_true,Bool.not_false,binOp,Op.shift,hm,Sem.run_bind,Sem.run_pure,Result.andThen_ok]<;>rfl
 ·simp at hv
end
end Go.Proofs.YtgoelphibofcmaaGreat.V

namespace Go.Proofs.YtgoelphibofcmaaGreat.V
open Go.RowKit
variable {P:Program} {w w':World} {D D':Nat->Prop} {ι ι':Names}
theorem jP (b o j:Nat):(⟨b,o,none⟩:Addr).add j=⟨b,o+j,none⟩:=by unfold Addr.add;split<;>simp_all
section
variable {g:Rows} {hs:Nat} {env:Env} {a:Act} {o:Oper} {id:Id} {v:AV}
theorem j3 {t:TypeId} {ag:Bool} {n b oo:Nat} {cs:List AV} {v:AV} {f:Nat->Value} (tb:mL P t=some ag) (hn:dK P t=some n) (hp:part ag n cs=some v) (fl:∀a∈cs,a.cell=true)
  (hc:∀j,j<cs.length->w.cell? ⟨b,oo+j,none⟩=some (f j)) (hr:∀j a,cs[j]? =some a->cu P w D ι a (f j)):∃u,(loadVar t ⟨b,oo,none⟩).run P w=.ok u w/\cu P w D ι v u:=by
 unfold part at hp
 cases ag with
 |true=>
  simp only[if_true]at hp
  split at hp
  ·rename_i hl
   simp at hp;subst hp
   refine⟨.agg ((List.range n).map f).toArray,?_,.agg _ _ f (by simp;omega) (fun a ha=>fl a (List.mem_of_mem_take ha)) (fun j hj=>?_) (fun j a ha=>?_)⟩
   ·simp only[loadVar,Sem.run_bind,rP tb,Result.andThen_ok,if_true,run_sizeOf hn,Sem.run_pure]
    rw[run_loadCells w _ n f (fun j hj=>by rw[jP];exact hc j (by omega))]
    rfl
   ·simp at hj
    have:j<n:=by omega
    simp[this]
   ·rw[List.getElem?_take]at ha
    split at ha
    ·exact hr _ _ ha
    ·simp at ha
  ·simp at hp
 |false=>
  simp only[Bool.false_eq_true,if_false]at hp
  cases cs with
  |nil=>simp at hp
  |cons c r=>
   simp at hp;subst hp
   refine⟨f 0,?_,hr 0 _ rfl⟩
   simp only[loadVar,Sem.run_bind,rP tb,Result.andThen_ok,Bool.false_eq_true,if_false]
   have:=hc 0 (by simp)
   simp at this
   rw[run_load,this]
theorem HY {S:fR P hs D ι g w} {i:Nat} {cs:List AV} (h:rowAt g id i=some cs) (hk:∀B,ι id=some B->B.k=none):∃B r,g id=some r/\ι id=some B/\kM P w D ι B r/\r.rows[i]? =some cs/\(∀a∈cs,a.cell=true)/\∃f:Nat->Value,∀j,j<cs.length->w.cell? ⟨B.b,i*B.sz+j,none⟩=some (f j)/\∀a,cs[j]? =some a->cu P w D ι a (f j):=by
 unfold rowAt at h
 simp only[Option.bind_eq_some_iff]at h
 obtain⟨r,hr,hi⟩:=h
 obtain⟨B,hB,R,_,_⟩:=S.row id r hr
 replace R:=R.row (hk B hB)
 refine⟨B,r,hr,hB,R,hi,R.flat cs (List.mem_of_getElem? hi),fun j=>(w.cell? ⟨B.b,i*B.sz+j,none⟩).getD undef,fun j hj=>?_⟩
 obtain⟨u,hu,vY⟩:=R.at_ i j cs _ hi (List.getElem?_eq_getElem hj)
 rw[R.sz,hu]
 refine⟨by simp only[hu,Option.getD_some],fun a ha=>?_⟩
 rw[List.getElem?_eq_getElem hj]at ha
 injection ha with ha
 subst ha
 simpa only[hu,Option.getD_some]using vY
theorem Na {x:Operand} {x':O} {t:TypeId} {ag:Bool} {n:Nat} (S:fR P hs D ι g w) (E:bJ P w D ι env a) (ho:o.op=.load t x) (tb:mL P t=some ag) (hn:dK P t=some n) (hx:cO P x=some x') (hv:ld g ag n (cF env x')=some v):nr P a o w D ι v:=by
 have hr:=db E hx
 have go:∀b oo u,a.eval x=.pointer (some ⟨b,oo,none⟩)->(loadVar t ⟨b,oo,none⟩).run P w=.ok u w->(execOp a.eval o).run P w=.ok (.value u) w:=fun b oo u h h2=>by
  simp only[execOp,ho,h,Instr.loadAt,Instr.sureAddr,Sem.run_bind,Sem.run_pure,Result.andThen_ok,h2]
 unfold ld at hv
 split at hv
 ·rename_i jB i' oo hb
  rw[hb]at hr
  obtain⟨B,h,hB,hk⟩:=gZ hr
  simp only[Option.bind_eq_some_iff]at hv
  obtain⟨cs,dn,hp⟩:=hv
  obtain⟨B',r,Bb,dr,R,hi,fl,f,hf⟩:=HY (S:=S) dn (fun B2 h2=>by rw[hB]at h2;injection h2 with h2;subst h2;exact hk)
  rw[hB]at dr;injection dr with dr;subst dr
  obtain⟨u,h1,h2⟩:=j3 (w:=w) (b:=B.b) (oo:=i'*B.sz+oo) (f:=fun j=>f (oo+j)) tb hn hp (fun a ha=>fl a (List.mem_of_mem_drop ha)) (fun j hj=>by
   rw[Nat.add_assoc];exact(hf _ (by simp at hj;omega)).1) (fun j a ha=>by
   simp at ha;exact(hf _ ((List.getElem?_eq_some_iff.1 ha).1)).2 _ ha)
  exact⟨u,go _ _ _ h h1,h2⟩
 ·rename_i cs hb
  rw[hb]at hr
  obtain⟨b,oo,vs,h,h1,h2,h3,h4⟩:=ko hr
  obtain⟨u,k1,k2⟩:=j3 (w:=w) (b:=b) (oo:=oo) (f:=vs) tb hn hv h2 h3 (fun j a ha=>.eD _ _ (h4 j a ha))
  exact⟨u,go _ _ _ h k1,k2⟩
 ·simp at hv
theorem PG {x:Operand} {x':O} (E:bJ P w D ι env a) (ho:o.op=.nilCheck x) (hx:cO P x=some x') (hv:ec (cF env x')=some v):nr P a o w D ι v:=by
 have hr:=db E hx
 unfold ec at hv
 split at hv
 ·rename_i jB i' oo hb
  simp at hv;subst hv
  rw[hb]at hr
  obtain⟨B,h,hB,hk⟩:=gZ hr
  exact⟨_,by simp only[execOp,ho,h];rfl,.ptr _ _ _ _ hB hk⟩
 ·rename_i cs hb
  simp at hv;subst hv
  rw[hb]at hr
  obtain⟨b,oo,vs,h,_⟩:=ko hr
  exact⟨_,by simp only[execOp,ho,h];rfl,h▸hr⟩
 ·simp at hv
theorem Km {x i:Operand} {x' i':O} {t e:TypeId} {m:Nat} (S:fR P hs D ι g w) (E:bJ P w D ι env a) (ho:o.op=.indexAddr t x i) (ht:P.underlying t=some (.slice e)) (hm:dK P e=some (m+1)) (hx:cO P x=some x') (hi:cO P i=some i')
  (hv:bG g (m+1) (cF env x') (cF env i')=some v):nr P a o w D ι v:=by
 have hr:=db E hx
 have B5:=db E hi
 have go:∀b oo n c k (q:Int),a.eval x=.slice (some ⟨b,oo,none⟩) n c->a.eval i=.int k q->0<=q->q<n->(execOp a.eval o).run P w=.ok (.value (.pointer (some ⟨b,oo+q.toNat*(m+1),none⟩))) w:=fun b oo n c k q h h2 h3 h4=>by
  simp only[execOp,ho,h,h2,Instr.indexAt,asIntOf,Sem.run_bind,Sem.run_pure,run_underlying ht,Result.andThen_ok,h3,h4,and_self,if_true,run_sizeOf hm,jP]
 unfold bG at hv
 split at hv
 ·rename_i rows k q hb rm
  split at hv
  ·rename_i hq
   simp only[Option.bind_eq_some_iff]at hv
   obtain⟨cs,dn,hv⟩:=hv
   split at hv
   ·rename_i hlen
    simp at hv;subst hv
    rw[hb]at hr;rw[rm]at B5
    have dE:=(List.getElem?_eq_some_iff.1 dn).1
    obtain⟨A,c,h,h1,h2,h3⟩:=uM hr
    rcases h3 with h3|⟨b,oo,sz,vs,rfl,hD,hl,fl,hc,hi⟩
    ·subst h3;simp at dn
    have eW:sz=m+1:=by rw[<-hlen,hl cs (List.mem_of_getElem? dn)]
    refine⟨_,go b oo _ _ k q h (de B5) hq (by omega),.eD _ _ (.cI cs b _ (vs q.toNat) hD (fl cs (List.mem_of_getElem? dn)) (fun j hj=>?_) (fun j a ha=>hi _ _ _ _ dn ha))⟩
    have:=hc q.toNat j dE (by rw[<-hl cs (List.mem_of_getElem? dn)];exact hj)
    rw[eW]at this
    rw[Nat.add_assoc];exact this
   ·simp at hv
  ·simp at hv
 ·rename_i jB off len k q hb rm
  split at hv
  ·rename_i hq
   simp only[Option.bind_eq_some_iff]at hv
   obtain⟨r,Bb,hv⟩:=hv
   split at hv
   ·rename_i wU
    simp at hv;subst hv
    rw[hb]at hr;rw[rm]at B5
    obtain⟨oo,cap,B,h,hB,h1,h2,h3,h4,hk⟩:=iy hr
    obtain⟨B',dr,R,_,_⟩:=S.row _ _ Bb
    rw[hB]at dr;injection dr with dr;subst dr
    replace R:=R.row hk
    have eW:B.sz=m+1:=R.sz.trans wU
    refine⟨_,go _ _ _ _ k q h (de B5) hq.1 hq.2,?_⟩
    have A7:oo=off*B.sz:=by rcases h2 with h2|h2<;>omega
    have:oo+q.toNat*(m+1)=(off+q.toNat)*B.sz+0:=by rw[A7,<-eW,Nat.add_mul];rfl
    rw[this]
    exact .ptr _ _ _ _ hB hk
   ·simp at hv
  ·simp at hv
 ·simp at hv
theorem M5 {x i:Operand} {x' i':O} {t e:TypeId} {m len:Nat} (E:bJ P w D ι env a) (ho:o.op=.indexAddr t x i) (ht:P.underlying t=some (.array len e)) (hm:dK P e=some (m+1)) (hx:cO P x=some x') (hi:cO P i=some i')
  (hv:cN len (m+1) (cF env x') (cF env i')=some v):nr P a o w D ι v:=by
 have hr:=db E hx
 have B5:=db E hi
 have go:∀b oo k (q:Int),a.eval x=.pointer (some ⟨b,oo,none⟩)->a.eval i=.int k q->0<=q->q<len->(execOp a.eval o).run P w=.ok (.value (.pointer (some ⟨b,oo+q.toNat*(m+1),none⟩))) w:=fun b oo k q h h2 h3 h4=>by
  simp only[execOp,ho,h,h2,Instr.indexAt,asIntOf,Sem.run_bind,Sem.run_pure,run_underlying ht,Instr.sureAddr,Result.andThen_ok,h3,h4,and_self,if_true,run_sizeOf hm,jP]
 unfold cN at hv
 split at hv
 ·rename_i jB r oo k q hb rm
  split at hv
  ·rename_i hq
   simp at hv;subst hv
   rw[hb]at hr;rw[rm]at B5
   obtain⟨B,h,hB,hk⟩:=gZ hr
   refine⟨_,go _ _ k q h (de B5) hq.1 hq.2,?_⟩
   rw[Nat.add_assoc]
   exact .ptr _ _ _ _ hB hk
  ·simp at hv
 ·rename_i cs k q hb rm
  split at hv
  ·rename_i hq
   simp at hv;subst hv
   rw[hb]at hr;rw[rm]at B5
   obtain⟨b,oo,vs,h,h1,h2,h3,h4⟩:=ko hr
   refine⟨_,go _ _ k q h (de B5) hq.1 hq.2,.eD _ _ (.cI _ _ _ (fun j=>vs (q.toNat*(m+1)+j)) h1 (fun a ha=>h2 a (List.mem_of_mem_drop ha)) (fun j hj=>?_) (fun j a ha=>h4 _ _ (by simpa using ha)))⟩
   rw[Nat.add_assoc]
   exact h3 _ (by simp at hj;omega)
  ·simp at hv
 ·simp at hv
theorem M7 {x i:Operand} {x' i':O} {t:TypeId} (E:bJ P w D ι env a) (ho:o.op=.index t x i) (ht:P.underlying t=some .string) (hx:cO P x=some x') (hi:cO P i=some i')
  (hv:cQ (cF env x') (cF env i')=some v):nr P a o w D ι v:=by
 have hr:=db E hx
 have B5:=db E hi
 unfold cQ at hv
 split at hv
 ·rename_i s k q hb rm
  split at hv
  ·rename_i hq
   simp only[Option.map_eq_some_iff]at hv
   obtain⟨c,hc,rfl⟩:=hv
   rw[hb]at hr;rw[rm]at B5
   refine⟨_,?_,.eD _ _ (.int _ _)⟩
   simp only[execOp,ho,fe hr,de B5,Instr.index,asIntOf,Sem.run_bind,Sem.run_pure,run_underlying ht,Result.andThen_ok,hq,if_true,hc]
  ·simp at hv
 ·simp at hv
theorem M6 {x i:Operand} {x' i':O} {t e:TypeId} {ag:Bool} {len n:Nat} (E:bJ P w D ι env a) (ho:o.op=.index t x i) (ht:P.underlying t=some (.array len e)) (tb:mL P e=some ag) (hn:dK P e=some n) (hx:cO P x=some x') (hi:cO P i=some i')
  (hv:cP ag len n (cF env x') (cF env i')=some v):nr P a o w D ι v:=by
 have hr:=db E hx
 have B5:=db E hi
 unfold cP at hv
 split at hv
 ·rename_i cs k q hb rm
  split at hv
  ·rename_i hq
   rw[hb]at hr;rw[rm]at B5
   obtain⟨vs,f,h,n1,fl,f1,r1⟩:=iw hr
   have go:∀u,(Go.part e vs (q.toNat*n)).run P w=.ok u w->(execOp a.eval o).run P w=.ok (.value u) w:=fun u hu=>by
    simp only[execOp,ho,h,de B5,Instr.index,asIntOf,Sem.run_bind,Sem.run_pure,run_underlying ht,Result.andThen_ok,hq,and_self,if_true,run_sizeOf hn,hu]
   unfold part at hv
   cases ag with
   |true=>
    simp only[if_true]at hv
    split at hv
    ·rename_i hl
     simp at hv;subst hv
     simp only[List.length_drop]at hl
     by_cases FM:n=0
     ·subst FM
      refine⟨_,go _ (ot tb hn),.agg _ _ (fun _=>undef) (by simp) (fun a ha=>by simp at ha) (fun j hj=>by simp at hj) (fun j a ha=>by simp at ha)⟩
     refine⟨_,go _ (ot tb hn),.agg _ _ (fun j=>f (q.toNat*n+j)) (by simp[n1];omega) (fun a ha=>fl a (List.mem_of_mem_drop (List.mem_of_mem_take ha))) (fun j hj=>?_) (fun j a ha=>?_)⟩
     ·simp at hj
      rw[Array.getElem?_extract,if_pos (by omega)];exact f1 _ (by omega)
     ·rw[List.getElem?_take]at ha
      split at ha
      ·exact r1 _ _ (by simpa using ha)
      ·simp at ha
    ·simp at hv
   |false=>
    simp only[Bool.false_eq_true,if_false]at hv
    have mT:cs[q.toNat*n]? =some v:=by simpa[List.head?_drop]using hv
    have dE:=(List.getElem?_eq_some_iff.1 mT).1
    exact⟨_,go _ (lL tb (f1 _ dE)),r1 _ _ mT⟩
  ·simp at hv
 ·simp at hv
theorem FF {x:Operand} {x':O} {i:Nat} (E:bJ P w D ι env a) (ho:o.op=.extract x i) (hx:cO P x=some x') (hv:aL i (cF env x')=some v):nr P a o w D ι v:=by
 have hr:=db E hx
 unfold aL at hv
 split at hv
 ·rename_i vs hb
  rw[hb]at hr
  obtain⟨us,f,h,h1,h2,h3⟩:=tp hr
  have dE:=(List.getElem?_eq_some_iff.1 hv).1
  exact⟨_,by simp only[execOp,ho,h,Instr.extract,h2 _ dE];rfl,h3 _ _ hv⟩
 ·simp at hv
theorem PK {x:Operand} {x':O} {t:TypeId} {e:TypeId} {n:Nat} (E:bJ P w D ι env a) (ho:o.op=.call {callee:=.builtin .len,args:= #[x],argTypes:= #[t]}) (ht:P.underlying t=some (.slice e)) (hx:cO P x=some x') (hv:ee (cF env x')=some n):nr P a o w D ι (.int .i64 n):=by
 have hr:=db E hx
 have go:∀A c,a.eval x=.slice A n c->(execOp a.eval o).run P w=.ok (.value (.int .i64 n)) w:=fun A c h=>by
  simp only[execOp,ho,resolve,Sem.run_bind,Sem.run_pure,Result.andThen_ok,invoke,builtin,Array.map,h]
  simp[Builtin.len_,run_underlying ht,goInt,h]
 refine⟨.int .i64 n,?_,.eD _ _ (.int _ _)⟩
 unfold ee at hv
 split at hv<;>simp at hv<;>subst hv<;>rename_i hb<;>rw[hb]at hr
 ·exact go _ _ (jN hr)
 ·obtain⟨A,c,h,_⟩:=uM hr;exact go _ _ h
 ·obtain⟨oo,cap,B,h,_⟩:=iy hr;exact go _ _ h
theorem M9 {x:Operand} {x':O} {t:TypeId} (E:bJ P w D ι env a) (ho:o.op=.call {callee:=.builtin .len,args:= #[x],argTypes:= #[t]}) (ht:P.underlying t=some .string) (hx:cO P x=some x') (hv:cU (cF env x')=some v):nr P a o w D ι v:=by
 have hr:=db E hx
 unfold cU at hv
 split at hv
 ·rename_i s hb
  simp at hv;subst hv
  rw[hb]at hr
  have h:=fe hr
  refine⟨_,?_,.eD _ _ (.int _ _)⟩
  simp only[execOp,ho,resolve,Sem.run_bind,Sem.run_pure,Result.andThen_ok,invoke,builtin,Array.map,h]
  simp[Builtin.len_,run_underlying ht,goInt,h]
 ·simp at hv
theorem ma {isS:Bool} {len cap h l:Nat} {lo hi:Option Operand} {KV pN:Option O} (E:bJ P w D ι env a) (jS:pZ P lo=some KV) (Bc:pZ P hi=some pN) (hh:dR len (pN.map (cF env))=some h) (hl:dS h (KV.map (cF env))=some l) (hc:len<=cap):
  (Instr.sliceBounds isS len cap (lo.map a.eval) (hi.map a.eval) none).run P w=.ok (l,h,cap) w/\l<=h/\h<=len:=by
 have bound:∀(x:Operand) (y:O) (k:IntKind) (n:Int) (m:Nat) (c:BoundsCode),cO P x=some y->cF env y=.int k n->0<=n->n<=m->(Instr.sliceBound (a.eval x) m c).run P w=.ok n.toNat w:=fun x y k n m c hx hy h0 h1=>by
  have hr:=db E hx
  rw[hy]at hr
  simp only[Instr.sliceBound,de hr,asIntOf,Sem.run_bind,Sem.run_pure,Result.andThen_ok,h0,h1,and_self,if_true]
 have H:h<=len/\((hi=none/\h=len)∨∃x,hi=some x/\∀c,(Instr.sliceBound (a.eval x) cap c).run P w=.ok h w):=by
  cases hi with
  |none=>
   simp[pZ]at Bc;subst Bc
   simp[dR]at hh;subst hh
   exact⟨Nat.le_refl _,.inl ⟨rfl,rfl⟩⟩
  |some x=>
   simp only[pZ,Option.map_eq_some_iff]at Bc
   obtain⟨y,hy,rfl⟩:=Bc
   simp only[Option.map_some,dR]at hh
   split at hh
   ·rename_i e;cases e
   ·rename_i k n e
    injection e with e
    split at hh
    ·rename_i hn
     simp at hh;subst hh
     exact⟨by omega,.inr ⟨x,rfl,fun c=>bound x y k n _ _ hy e hn.1 (by omega)⟩⟩
    ·simp at hh
   ·simp at hh
 have L:l<=h/\((lo=none/\l=0)∨∃x,lo=some x/\∀c,(Instr.sliceBound (a.eval x) h c).run P w=.ok l w):=by
  cases lo with
  |none=>
   simp[pZ]at jS;subst jS
   simp[dS]at hl;subst hl
   exact⟨Nat.zero_le _,.inl ⟨rfl,rfl⟩⟩
  |some x=>
   simp only[pZ,Option.map_eq_some_iff]at jS
   obtain⟨y,hy,rfl⟩:=jS
   simp only[Option.map_some,dS]at hl
   split at hl
   ·rename_i e;cases e
   ·rename_i k n e
    injection e with e
    split at hl
    ·rename_i hn
     simp at hl;subst hl
     exact⟨by omega,.inr ⟨x,rfl,fun c=>bound x y k n h _ hy e hn.1 hn.2⟩⟩
    ·simp at hl
   ·simp at hl
 refine⟨?_,L.1,H.1⟩
 unfold Instr.sliceBounds
 rcases H.2 with⟨rfl,rfl⟩|⟨x,rfl,hx⟩<;>rcases L.2 with⟨rfl,rfl⟩|⟨y,rfl,hy⟩<;>
  simp only[Option.map_none,Option.map_some,Sem.run_bind,Sem.run_pure,Result.andThen_ok, *]
theorem Kn {x:Operand} {x':O} {lo hi:Option Operand} {KV pN:Option O} {t e:TypeId} {m:Nat} (S:fR P hs D ι g w) (E:bJ P w D ι env a) (ho:o.op=.slice t x lo hi none) (ht:P.underlying t=some (.slice e)) (hm:dK P e=some m) (hx:cO P x=some x') (jS:pZ P lo=some KV) (Bc:pZ P hi=some pN)
  (hv:bH g m (cF env x') (KV.map (cF env)) (pN.map (cF env))=some v):nr P a o w D ι v:=by
 have hr:=db E hx
 have go:∀A len cap l h,a.eval x=.slice A len cap->(Instr.sliceBounds true len cap (lo.map a.eval) (hi.map a.eval) none).run P w=.ok (l,h,cap) w->(execOp a.eval o).run P w=.ok (.value (.slice (if cap=l then A else A.map (·.add (l*m))) (h-l) (cap-l))) w:=fun A len cap l h h1 h2=>by
  simp only[execOp,ho,h1,Instr.sliceAt,Instr.slice,Sem.run_bind,Sem.run_pure,run_underlying ht,Result.andThen_ok,Option.map_none,h2,run_sizeOf hm]
 unfold bH at hv
 split at hv
 ·rename_i hb
  rw[hb]at hr
  simp only[Option.bind_eq_some_iff,Option.map_eq_some_iff]at hv
  obtain⟨h,hh,l,hl,rfl⟩:=hv
  obtain⟨q,q1,q2⟩:=ma (w:=w) (isS:=true) (cap:=0) E jS Bc hh hl (Nat.le_refl _)
  have h0:h=0:=by omega
  have l0:l=0:=by omega
  subst h0;subst l0
  refine⟨_,go _ _ _ _ _ (jN hr) q,?_⟩
  simp;exact .eD _ _ .b4
 ·rename_i rows hb
  rw[hb]at hr
  simp only[Option.bind_eq_some_iff,Option.map_eq_some_iff]at hv
  obtain⟨h,hh,l,hl,hv⟩:=hv
  split at hv
  ·rename_i dy
   simp at hv;subst hv
   obtain⟨A,c,he,c1,c2,h3⟩:=uM hr
   obtain⟨q,q1,q2⟩:=ma (w:=w) (isS:=true) (cap:=c) E jS Bc hh hl c1
   refine⟨_,go _ _ _ _ _ he q,.eD _ _ ?_⟩
   have hlen:((rows.drop l).take (h-l)).length=h-l:=by simp;omega
   by_cases hz:h-l=0
   ·have:(rows.drop l).take (h-l)=[]:=by rw[hz];simp
    rw[this,hz]
    exact .zm _ _ (by omega)
   ·rcases h3 with h3|⟨b,oo,sz,vs,rfl,hD,IM,fl,hc,hi⟩
    ·subst h3;simp at q2;omega
    rw[if_neg (by omega)]
    simp only[Option.map_some,jP]
    have z7:sz=m:=by
     have dE:l<rows.length:=by omega
     have:=dy rows[l] (List.getElem_mem dE)
     rw[<-this,IM _ (List.getElem_mem dE)]
    subst z7
    refine .sl _ b _ _ _ sz (fun i j=>vs (l+i) j) hlen (by omega) (by omega) hD (fun cs dn=>IM cs (List.mem_of_mem_drop (List.mem_of_mem_take dn))) (fun cs dn=>fl cs (List.mem_of_mem_drop (List.mem_of_mem_take dn))) (fun i j hi hj=>?_) (fun i j cs a dn ha=>?_)
    ·rw[<-hc (l+i) j (by omega) hj,Nat.add_mul]
     congr 2;omega
    ·rw[List.getElem?_take]at dn
     split at dn
     ·exact hi _ _ _ _ (by simpa using dn) ha
     ·simp at dn
  ·simp at hv
 ·rename_i jB off len hb
  rw[hb]at hr
  simp only[Option.bind_eq_some_iff,Option.map_eq_some_iff]at hv
  obtain⟨r,Bb,h,hh,l,hl,hv⟩:=hv
  split at hv
  ·rename_i wU
   simp at hv;subst hv
   obtain⟨oo,cap,B,he,hB,h1,h2,h3,h4,hk⟩:=iy hr
   obtain⟨B',dr,R,_,_⟩:=S.row _ _ Bb
   rw[hB]at dr;injection dr with dr;subst dr
   replace R:=R.row hk
   have eW:B.sz=m:=R.sz.trans wU
   obtain⟨q,q1,q2⟩:=ma (w:=w) (isS:=true) (cap:=cap) E jS Bc hh hl h1
   refine⟨_,go _ _ _ _ _ he q,?_⟩
   have e1:(off+l+(cap-l))*B.sz<=B.C:=by rw[show off+l+(cap-l)=off+cap by omega];exact h3
   by_cases nH:cap=l
   ·rw[if_pos nH]
    exact .own _ _ _ _ _ B hB hk (by omega) (.inl (by omega)) e1 (by omega)
   ·rw[if_neg nH]
    simp only[Option.map_some,jP]
    have A7:oo=off*B.sz:=by rcases h2 with h2|h2<;>omega
    exact .own _ _ _ _ _ B hB hk (by omega) (.inr (by rw[A7,eW,Nat.add_mul])) e1 (by omega)
  ·simp at hv
 ·simp at hv
theorem IA {x:Operand} {x':O} {lo hi:Option Operand} {KV pN:Option O} {t:TypeId} (E:bJ P w D ι env a) (ho:o.op=.slice t x lo hi none) (ht:P.underlying t=some .string) (hx:cO P x=some x') (jS:pZ P lo=some KV) (Bc:pZ P hi=some pN)
  (hv:aW (cF env x') (KV.map (cF env)) (pN.map (cF env))=some v):nr P a o w D ι v:=by
 have hr:=db E hx
 unfold aW at hv
 split at hv
 ·rename_i s hb
  rw[hb]at hr
  simp only[Option.bind_eq_some_iff,Option.map_eq_some_iff]at hv
  obtain⟨h,hh,l,hl,rfl⟩:=hv
  obtain⟨q,_,_⟩:=ma (w:=w) (isS:=false) E jS Bc hh hl (Nat.le_refl _)
  refine⟨_,?_,.eD _ _ (.str _)⟩
  simp only[execOp,ho,fe hr,Instr.sliceAt,Instr.slice,Sem.run_bind,Sem.run_pure,run_underlying ht,Result.andThen_ok,Option.map_none,Option.isSome_none,Bool.false_eq_true,if_false,q]
 ·simp at hv
theorem Cs {xs:List Operand} {ys:List O} (E:bJ P w D ι env a) (h:xs.mapM (cO P)=some ys):(xs.map a.eval).length=ys.length/\∀j y,ys[j]? =some y->cu P w D ι (cF env y) ((xs.map a.eval).getD j undef):=by
 induction xs generalizing ys with
 |nil=>simp at h;subst h;simp
 |cons x r ih=>
  simp only[List.mapM_cons,Option.bind_eq_bind,Option.bind_eq_some_iff]at h
  obtain⟨c,hc,oP,dn,h⟩:=h
  simp at h;subst h
  obtain⟨h1,h2⟩:=ih dn
  refine⟨by simpa using h1,fun j d hd=>?_⟩
  cases j with
  |zero=>simp at hd ⊢;subst hd;exact db E hc
  |succ j=>simp at hd ⊢;simpa using h2 j d hd
theorem Nc {f:Nat} {first cC:Array Operand} {zF:List O} (E:bJ P w D ι env a) (ho:o.op=.makeFunc (.func f) first cC) (hf:first= #[]) (hc:fu P f=true) (hx:cC.toList.mapM (cO P)=some zF):nr P a o w D ι (.fn f (zF.map (cF env))):=by
 subst hf
 obtain⟨h1,h2⟩:=Cs E hx
 refine⟨.func (.func f) #[] (cC.map a.eval),by simp only[execOp,ho,Instr.makeFunc,Sem.run_bind,Sem.run_pure,Result.andThen_ok];simp,.fn _ _ _ (fun j=>(cC.toList.map a.eval).getD j undef) hc (by simpa using h1) (fun j hj=>?_) (fun j x NH=>?_)⟩
 ·simp at hj h1
  have:j<cC.size:=by omega
  simp[this]
 ·simp only[List.getElem?_map,Option.map_eq_some_iff]at NH
  obtain⟨y,hy,rfl⟩:=NH
  exact h2 j y hy
theorem Nd {f:Nat} {first cC:Array Operand} {zF:List O} (E:bJ P w D ι env a) (ho:o.op=.makeFunc (.func f) first cC) (hf:cC= #[]) (hc:fu P f=true) (hx:first.toList.mapM (cO P)=some zF):nr P a o w D ι (.sC f (zF.map (cF env))):=by
 subst hf
 obtain⟨h1,h2⟩:=Cs E hx
 refine⟨.func (.func f) (first.map a.eval) #[],by simp only[execOp,ho,Instr.makeFunc,Sem.run_bind,Sem.run_pure,Result.andThen_ok];simp,.sC _ _ _ (fun j=>(first.toList.map a.eval).getD j undef) hc (by simpa using h1) (fun j hj=>?_) (fun j x NH=>?_)⟩
 ·simp at hj h1
  have:j<first.size:=by omega
  simp[this]
 ·simp only[List.getElem?_map,Option.map_eq_some_iff]at NH
  obtain⟨y,hy,rfl⟩:=NH
  exact h2 j y hy
end
end Go.Proofs.YtgoelphibofcmaaGreat.V

namespace Go.Proofs.YtgoelphibofcmaaGreat.V
open Go.RowKit
variable {P:Program} {w w':World} {D D':Nat->Prop} {ι ι':Names}
def Mk (P:Program) (a:Act) (o:Oper) (w:World) (D:Nat->Prop) (ι:Names) (id:Id) (v:AV) (r:Row):Prop:=
 ∃u cells T,(execOp a.eval o).run P w=.ok (.value u) (w.alloc (.cells cells T))/\r.w=true/\r.rows.length*r.sz<=cells.size/\(∀cs∈r.rows,cs.length=r.sz)/\(∀cs∈r.rows,∀a∈cs,a.cell=true)/\
  (∀i j cs a,r.rows[i]? =some cs->cs[j]? =some a->∃x,cells[i*r.sz+j]? =some x/\cu P w D ι a x)/\∀ι':Names,ι' id=some ⟨w.heap.size,r.sz,cells.size,none⟩->cu P w D ι' v u
section
variable {g:Rows} {hs:Nat} {env:Env} {a:Act} {o:Oper} {id:Id} {v:AV}
theorem kL {vs:List Value} {cs:List K} (h:vs.mapM EN=some cs):e6 P w D ι (cs.map K.av) vs.toArray:=by
 obtain⟨h1,h2⟩:=qn h
 refine⟨by simp[h1],fun j a ha=>?_⟩
 simp only[List.getElem?_map,Option.map_eq_some_iff]at ha
 obtain⟨c,hc,rfl⟩:=ha
 exact⟨c.val,by simpa using h2 j c hc,uK c⟩
theorem jA {t:TypeId} {z:List K} (h:jj P t=some z):∃i v,P.info? t=some i/\i.zero=some v/\v.cells.size=i.size/\v.cells.toList.mapM EN=some z/\z.length=i.size:=by
 unfold jj at h
 split at h
 ·rename_i i hi
  split at h
  ·rename_i v hv
   split at h
   ·rename_i hs
    exact⟨i,v,hi,hv,hs,h,by rw[(qn h).1];simpa using hs⟩
   ·simp at h
  ·simp at h
 ·simp at h
theorem DI {cs:List AV} {cells:Array Value} (h:e6 P w D ι cs cells):∀i j c a,[cs][i]? =some c->c[j]? =some a->∃x,cells[i*cs.length+j]? =some x/\cu P w D ι a x:=by
 intro i j c a hi hj
 cases i with
 |zero=>simp at hi;subst hi;simpa using h.2 j a hj
 |succ i=>simp at hi
theorem Pg {t:TypeId} {z:List K} (ho:o.op=.alloc t) (hz:jj P t=some z):Mk P a o w D ι id (.ptr id 0 0) ⟨true,z.length,[z.map K.av]⟩:=by
 obtain⟨i,v,hi,hv,hs,hm,hl⟩:=jA hz
 have hk:=kL (P:=P) (w:=w) (D:=D) (ι:=ι) hm
 refine⟨.pointer (some ⟨w.heap.size,0,none⟩),v.cells,t,?_,rfl,?_,?_,?_,?_,?_⟩
 ·simp only[execOp,ho,Instr.alloc,zeroValue,typeInfo,Sem.run_bind]
  simp[hi,hv,newVar,newRow]
 ·simp[hl,hs]
 ·intro cs dn;simp at dn;subst dn;simp
 ·intro cs dn x hx;simp at dn;subst dn
  obtain⟨c,_,rfl⟩:=List.mem_map.1 hx;exact c.lX
 ·have:=DI hk;simpa using this
 ·intro ι' hι
  have:=cu.ptr (P:=P) (w:=w) (D:=D) (ι:=ι') id 0 0 _ hι rfl
  simpa using this
theorem pI {x:AV} {u:Value} (h:cu P w D ι x u) (hc:x.cells.all AV.cell=true):e6 P w D ι x.cells u.cells:=by
 obtain⟨h1,f,h2,h3⟩:=h.cells hc
 exact⟨h1,fun j a ha=>⟨f j,h2 j (List.getElem?_eq_some_iff.1 ha).1,h3 j a ha⟩⟩
theorem Pe {t:TypeId} {x:Operand} {x':O} {cs:List AV} (E:bJ P w D ι env a) (ho:o.op=.box t x) (hx:cO P x=some x') (hb:cJ (cF env x')=some cs):Mk P a o w D ι id (.ptr id 0 0) ⟨true,cs.length,[cs]⟩:=by
 have hr:=db E hx
 unfold cJ at hb
 split at hb
 ·rename_i dy
  simp at hb;subst hb
  have hk:=pI hr dy
  refine⟨.pointer (some ⟨w.heap.size,0,none⟩),(a.eval x).cells,t,?_,rfl,?_,?_,?_,?_,?_⟩
  ·simp only[execOp,ho,Instr.box,Sem.run_bind]
   simp[newVar,newRow]
  ·simp[hk.1]
  ·intro cs dn;simp at dn;subst dn;rfl
  ·intro cs dn y hy;simp at dn;subst dn
   exact List.all_eq_true.1 dy y hy
  ·exact DI hk
  ·intro ι' hι
   have:=cu.ptr (P:=P) (w:=w) (D:=D) (ι:=ι') id 0 0 _ hι rfl
   simpa using this
 ·simp at hb
theorem foldl_set:∀(vs:List Value) (n off:Nat) (cells:Array Value),off+n+vs.length<=cells.size->((vs.zipIdx n).foldl (fun cs (x:Value×Nat)=>cs.setIfInBounds (off+x.2) x.1) cells).size=cells.size/\
  ∀k,((vs.zipIdx n).foldl (fun cs (x:Value×Nat)=>cs.setIfInBounds (off+x.2) x.1) cells)[k]? =if off+n<=k/\k<off+n+vs.length then vs[k-(off+n)]? else cells[k]?
 |[],n,off,cells,_=>⟨rfl,fun k=>by simp;intro h1 h2;omega⟩
 |v::r,n,off,cells,h=>by
  simp only[List.length_cons]at h
  obtain⟨h1,h2⟩:=foldl_set r (n+1) off (cells.setIfInBounds (off+n) v) (by simp;omega)
  simp only[List.zipIdx_cons,List.foldl_cons]
  refine⟨by rw[h1];simp,fun k=>?_⟩
  rw[h2 k]
  simp only[List.length_cons]
  by_cases hk:k=off+n
  ·subst hk
   rw[if_neg (by omega),if_pos (by omega)]
   simp[show off+n<cells.size by omega]
  ·by_cases ug:off+n<=k/\k<off+n+(r.length+1)
   ·rw[if_pos (by omega),if_pos ug]
    have:k-(off+n)=(k-(off+(n+1)))+1:=by omega
    rw[this,List.getElem?_cons_succ]
   ·rw[if_neg (by omega),if_neg ug,Array.getElem?_setIfInBounds_ne (by omega)]
theorem tV (place:Nat->Option (Nat×Nat)):∀(ps:List (Nat×Value)) (qs:List (Nat×Nat×AV)) (cells:Array Value) (cs res:List AV),e6 P w D ι cs cells->(∀a∈cs,a.cell=true)->ps.length=qs.length->
  (∀(k:Nat) i u o' n x,ps[k]? =some (i,u)->qs[k]? =some (o',n,x)->place i=some (o',n)/\cu P w D ι x u)->cw cs qs=some res->∃iV,Instr.fill place cells ps=some iV/\e6 P w D ι res iV/\(∀a∈res,a.cell=true)/\res.length=cs.length:=by
 intro ps
 induction ps with
 |nil=>
  intro qs cells cs res hR hf hl _ hv
  cases qs with
  |nil=>simp[cw]at hv;subst hv;exact⟨cells,rfl,hR,hf,rfl⟩
  |cons q r=>simp at hl
 |cons p ps ih=>
  intro qs cells cs res hR hf hl hp hv
  cases qs with
  |nil=>simp at hl
  |cons q qs=>
   obtain⟨i,u⟩:=p
   obtain⟨oo,n,x⟩:=q
   obtain⟨lr,hr⟩:=hp 0 i u oo n x rfl rfl
   unfold cw at hv
   split at hv
   ·rename_i hc
    obtain⟨c1,c2,c3⟩:=hc
    have hk:=pI hr c3
    have hus:u.cells.size=n:=by rw[hk.1,c1]
    have dn:cells.size=cs.length:=hR.1
    unfold Instr.fill
    simp only[lr]
    rw[if_neg (by rw[hus,dn];simp;omega)]
    obtain⟨s1,s2⟩:=foldl_set u.cells.toList 0 oo cells (by simp;omega)
    have e0:(u.cells.zipIdx.foldl (fun cs (x:Value×Nat)=>cs.setIfInBounds (oo+x.2) x.1) cells)=(u.cells.toList.zipIdx 0).foldl (fun cs (x:Value×Nat)=>cs.setIfInBounds (oo+x.2) x.1) cells:=by
     rw[<-Array.foldl_toList];simp
    have qe:=ih qs (u.cells.zipIdx.foldl (fun cs (x:Value×Nat)=>cs.setIfInBounds (oo+x.2) x.1) cells) (cs.take oo++x.cells++cs.drop (oo+n)) res ?_ ?_ (by simpa using hl) (fun k i u o' n x h1 h2=>hp (k+1) i u o' n x (by simpa using h1) (by simpa using h2)) hv
    ·obtain⟨iV,h1,h2,h3,h4⟩:=qe
     refine⟨iV,h1,h2,h3,?_⟩
     rw[h4];simp;omega
    ·rw[e0]
     refine⟨by rw[s1,dn];simp;omega,fun j a ha=>?_⟩
     rw[s2 j]
     simp only[Nat.add_zero,Array.length_toList]
     by_cases hj:oo<=j/\j<oo+u.cells.size
     ·rw[if_pos hj]
      rw[List.append_assoc,List.getElem?_append_right (by simp;omega),List.getElem?_append_left (by simp;omega)]at ha
      simp only[List.length_take]at ha
      rw[show min oo cs.length=oo by omega]at ha
      simpa using hk.2 _ _ ha
     ·rw[if_neg hj]
      by_cases hj2:j<oo
      ·rw[List.append_assoc,List.getElem?_append_left (by simp;omega),List.getElem?_take,if_pos hj2]at ha
       exact hR.2 _ _ ha
      ·rw[List.getElem?_append_right (by simp;omega)]at ha
       simp only[List.length_append,List.length_take,List.getElem?_drop]at ha
       rw[show oo+n+(j-(min oo cs.length+x.cells.length))=j by omega]at ha
       exact hR.2 _ _ ha
    ·intro b hb
     rcases List.mem_append.1 hb with hb|hb
     ·rcases List.mem_append.1 hb with hb|hb
      ·exact hf b (List.mem_of_mem_take hb)
      ·exact List.all_eq_true.1 c3 b hb
     ·exact hf b (List.mem_of_mem_drop hb)
   ·simp at hv
theorem vP {fs:List Field} (h:∀f∈fs,(P.info? f.type).isSome=true):∃yG,fs.mapM (fun f=>(P.info? f.type).map fun i=>(f.offset,i.size))=some yG/\∀(i:Nat) (f:Field) (n:Nat),fs[i]? =some f->dK P f.type=some n->yG[i]? =some (f.offset,n):=by
 induction fs with
 |nil=>exact⟨[],rfl,fun i f n h=>by simp at h⟩
 |cons f r ih=>
  obtain⟨q,h1,h2⟩:=ih (fun x hx=>h x (List.mem_cons_of_mem _ hx))
  obtain⟨i,hi⟩:=Option.isSome_iff_exists.1 (h f (by simp))
  refine⟨(f.offset,i.size)::q,by simp[hi,h1],fun k x n hk hn=>?_⟩
  cases k with
  |zero=>simp at hk;subst hk;simp[dK,hi]at hn;subst hn;rfl
  |succ k=>simp at hk ⊢;exact h2 k x n hk hn
theorem o9 {ps:List (Nat×Operand)} {l:List (Nat×O)} (E:bJ P w D ι env a) (h:ps.mapM (fun(x:Nat×Operand)=>(cO P x.2).map (x.1,·))=some l):l.length=ps.length/\∀(k i:Nat) (y:O),l[k]? =some (i,y)->∃x,ps[k]? =some (i,x)/\cO P x=some y:=by
 induction ps generalizing l with
 |nil=>simp at h;subst h;simp
 |cons p r ih=>
  simp only[List.mapM_cons,Option.bind_eq_bind,Option.bind_eq_some_iff]at h
  obtain⟨c,hc,oP,dn,h⟩:=h
  simp at h;subst h
  obtain⟨h1,h2⟩:=ih dn
  simp only[Option.map_eq_some_iff]at hc
  obtain⟨y,hy,rfl⟩:=hc
  refine⟨by simp[h1],fun k i z hk=>?_⟩
  cases k with
  |zero=>simp at hk;obtain⟨rfl,rfl⟩:=hk;exact⟨p.2,rfl,hy⟩
  |succ k=>simp at hk ⊢;exact h2 k i z hk
theorem By {fs:Array Field} {l:List (Nat×O)} {q:List (Nat×Nat×O)} (h:qV P fs l=some q):q.length=l.length/\∀(k oo n:Nat) (y:O),q[k]? =some (oo,n,y)->∃(i:Nat) (f:Field),l[k]? =some (i,y)/\fs[i]? =some f/\f.offset=oo/\dK P f.type=some n:=by
 induction l generalizing q with
 |nil=>simp[qV]at h;subst h;simp
 |cons p r ih=>
  obtain⟨i,x⟩:=p
  unfold qV at h
  split at h
  ·rename_i f hf
   split at h
   ·rename_i n hn
    simp only[Option.map_eq_some_iff]at h
    obtain⟨q',Jy,rfl⟩:=h
    obtain⟨h1,h2⟩:=ih Jy
    refine⟨by simp[h1],fun k oo m y hk=>?_⟩
    cases k with
    |zero=>simp at hk;obtain⟨rfl,rfl,rfl⟩:=hk;exact⟨i,f,rfl,hf,rfl,hn⟩
    |succ k=>simp only[List.getElem?_cons_succ]at hk ⊢;exact h2 k oo m y hk
   ·simp at h
  ·simp at h
theorem e6.agg {xs:List AV} {vs:Array Value} (h:e6 P w D ι xs vs) (hf:∀a∈xs,a.cell=true):cu P w D ι (.agg xs) (.agg vs):=
 .agg xs vs (fun j=>vs.getD j undef) h.1 hf (fun j hj=>by
  have:j<vs.size:=by rw[h.1];exact hj
  simp[this]) (fun j a ha=>by
  obtain⟨u,h1,h2⟩:=h.2 j a ha
  simpa[Array.getD_eq_getD_getElem?,h1]using h2)
theorem Kj {t:TypeId} {ps:Array (Nat×Operand)} {fs:Array Field} {z:List K} {l:List (Nat×O)} {q:List (Nat×Nat×O)} {cs:List AV} (E:bJ P w D ι env a) (ho:o.op=.build t ps) (ht:P.underlying t=some (.struct fs)) (hz:jj P t=some z) (hl:qZ P ps=some l)
  (qd:∀f∈fs.toList,(P.info? f.type).isSome=true) (hq:qV P fs l=some q) (hv:cw (z.map K.av) (q.map fun(o,n,x)=>(o,n,cF env x))=some cs):nr P a o w D ι (.agg cs):=by
 obtain⟨it,zv,hi,uo,hs,hm,Dx⟩:=jA hz
 obtain⟨yG,lr,Sc⟩:=vP qd
 have hk:=kL (P:=P) (w:=w) (D:=D) (ι:=ι) hm
 obtain⟨n1,r1⟩:=o9 E hl
 obtain⟨n2,r2⟩:=By hq
 obtain⟨iV,h1,h2,h3,_⟩:=tV (P:=P) (w:=w) (D:=D) (ι:=ι) (yG.toArray[·]?) (ps.toList.map fun(i,x)=>(i,a.eval x)) (q.map fun(o,n,x)=>(o,n,cF env x)) zv.cells _ cs (by simpa using hk)
  (fun b hb=>by obtain⟨c,_,rfl⟩:=List.mem_map.1 hb;exact c.lX) (by simp[n2,n1]) (fun k i u o' n x vz ug=>by
   simp only[List.getElem?_map,Option.map_eq_some_iff]at vz ug
   obtain⟨⟨i',x'⟩,hp,e1⟩:=vz
   obtain⟨⟨o2,n',y⟩,Jy,e2⟩:=ug
   simp only[Prod.mk.injEq]at e1 e2
   obtain⟨rfl,rfl⟩:=e1
   obtain⟨rfl,rfl,rfl⟩:=e2
   obtain⟨i2,f,GY,hf,rfl,hn⟩:=r2 _ _ _ _ Jy
   obtain⟨x2,wY,hc⟩:=r1 _ _ _ GY
   rw[hp]at wY
   simp only[Option.some.injEq,Prod.mk.injEq]at wY
   obtain⟨rfl,rfl⟩:=wY
   exact⟨by simpa using Sc _ _ _ (by simpa using hf) hn,db E hc⟩) hv
 refine⟨.agg iV,?_,h2.agg h3⟩
 have hb:P.built t ((ps.map fun(i,x)=>(i,a.eval x)).toList)=some iV:=by
  unfold Program.built
  simp only[hi,ht,uo,lr]
  simpa using h1
 simp only[execOp,ho,Sem.run_bind,run_build w t _ _ hb,Result.andThen_ok,Sem.run_pure]
theorem Iz {t e:TypeId} {len n:Nat} {ps:Array (Nat×Operand)} {z:List K} {l:List (Nat×O)} {cs:List AV} (E:bJ P w D ι env a) (ho:o.op=.build t ps) (ht:P.underlying t=some (.array len e)) (hz:jj P t=some z) (hl:qZ P ps=some l) (hn:dK P e=some n)
  (hv:cw (z.map K.av) ((l.map fun(x:Nat×O)=>(x.1*n,n,x.2)).map fun(o,n,x)=>(o,n,cF env x))=some cs):nr P a o w D ι (.agg cs):=by
 obtain⟨it,zv,hi,uo,hs,hm,Dx⟩:=jA hz
 have hk:=kL (P:=P) (w:=w) (D:=D) (ι:=ι) hm
 obtain⟨n1,r1⟩:=o9 E hl
 obtain⟨ie,FK,eW⟩:∃ie,P.info? e=some ie/\ie.size=n:=by simpa[dK]using hn
 obtain⟨iV,h1,h2,h3,_⟩:=tV (P:=P) (w:=w) (D:=D) (ι:=ι) (fun i=>some (i*ie.size,ie.size)) (ps.toList.map fun(i,x)=>(i,a.eval x)) ((l.map fun(x:Nat×O)=>(x.1*n,n,x.2)).map fun(o,n,x)=>(o,n,cF env x)) zv.cells _ cs (by simpa using hk)
  (fun b hb=>by obtain⟨c,_,rfl⟩:=List.mem_map.1 hb;exact c.lX) (by simp[n1]) (fun k i u o' n' x vz ug=>by
   simp only[List.getElem?_map,Option.map_eq_some_iff]at vz ug
   obtain⟨⟨i',x'⟩,hp,e1⟩:=vz
   obtain⟨⟨o2,n2,y⟩,⟨⟨i2,y2⟩,GY,e3⟩,e2⟩:=ug
   simp only[Prod.mk.injEq]at e1 e2 e3
   obtain⟨rfl,rfl⟩:=e1
   obtain⟨rfl,rfl,rfl⟩:=e2
   obtain⟨rfl,rfl,rfl⟩:=e3
   obtain⟨x2,wY,hc⟩:=r1 _ _ _ GY
   rw[hp]at wY
   simp only[Option.some.injEq,Prod.mk.injEq]at wY
   obtain⟨rfl,rfl⟩:=wY
   exact⟨by rw[eW],db E hc⟩) hv
 refine⟨.agg iV,?_,h2.agg h3⟩
 have hb:P.built t ((ps.map fun(i,x)=>(i,a.eval x)).toList)=some iV:=by
  unfold Program.built
  simp only[hi,ht,uo,FK]
  simpa using h1
 simp only[execOp,ho,Sem.run_bind,run_build w t _ _ hb,Result.andThen_ok,Sem.run_pure]
theorem tU:∀(vs:List AV) (sz i:Nat) (rs:List (List AV)) (cs:List AV),0<sz->cs.length=(i+vs.length)*sz->rowsOf sz vs=some rs->
  cw cs ((vs.zipIdx i).map fun(v,j)=>(j*sz,sz,v))=some (cs.take (i*sz)++rs.flatten)/\rs.length=vs.length/\(∀c∈rs,c.length=sz)/\∀c∈rs,∀x∈c,x.cell=true
 |[],sz,i,rs,cs,_,hl,h=>by
  simp[rowsOf]at h;subst h
  simp at hl
  simp[cw,List.take_of_length_le (show cs.length<=i*sz by omega)]
 |v::r,sz,i,rs,cs,eW,hl,h=>by
  simp only[rowsOf,Option.bind_eq_some_iff,Option.map_eq_some_iff]at h
  obtain⟨c,hc,rs',wU,rfl⟩:=h
  unfold rowOf at hc
  split at hc
  ·rename_i zW
   simp at hc;subst hc
   obtain⟨oR,Ez⟩:=zW
   simp only[List.length_cons]at hl
   have hmul:(i+(r.length+1))*sz=i*sz+sz+r.length*sz:=by rw[Nat.add_mul,Nat.add_mul];omega
   have ih:=tU r sz (i+1) rs' (cs.take (i*sz)++v.cells++cs.drop (i*sz+sz)) eW (by
    simp[oR];rw[Nat.add_mul,Nat.add_mul];omega) wU
   refine⟨?_,by simp[ih.2.1],?_,?_⟩
   ·simp only[List.zipIdx_cons,List.map_cons,cw]
    rw[if_pos ⟨oR,by omega,Ez⟩,ih.1]
    congr 1
    rw[List.flatten_cons,<-List.append_assoc]
    congr 1
    rw[Nat.add_mul,Nat.one_mul,List.take_append_of_le_length (by simp[oR];omega)]
    rw[List.take_of_length_le (by simp[oR];omega)]
   ·intro c' ke;rcases List.mem_cons.1 ke with rfl|ke
    ·exact oR
    ·exact ih.2.2.1 c' ke
   ·intro c' ke;rcases List.mem_cons.1 ke with rfl|ke
    ·exact List.all_eq_true.1 Ez
    ·exact ih.2.2.2 c' ke
  ·simp at hc
theorem flat_get {α:Type} {ny:List (List α)} {sz:Nat} (h:∀cs∈ny,cs.length=sz) {i j:Nat} {cs:List α} {a:α} (hi:ny[i]? =some cs) (hj:cs[j]? =some a):ny.flatten[i*sz+j]? =some a:=by
 induction ny generalizing i with
 |nil=>simp at hi
 |cons c r ih=>
  have hc:c.length=sz:=h c (by simp)
  cases i with
  |zero=>
   simp at hi;subst hi
   have dE:=(List.getElem?_eq_some_iff.1 hj).1
   rw[List.flatten_cons,List.getElem?_append_left (by omega)];simpa using hj
  |succ i=>
   rw[List.flatten_cons,List.getElem?_append_right (by rw[hc,Nat.succ_mul];omega)]
   have:(i+1)*sz+j-c.length=i*sz+j:=by rw[hc,Nat.succ_mul];omega
   rw[this]
   exact ih (fun cs dn=>h cs (List.mem_cons_of_mem _ dn)) (by simpa using hi)
theorem GC {α:Type} {ny:List (List α)} {sz:Nat} (h:∀cs∈ny,cs.length=sz):ny.flatten.length=ny.length*sz:=by
 induction ny with
 |nil=>simp
 |cons c r ih=>
  rw[List.flatten_cons,List.length_append,h c (by simp),ih (fun cs dn=>h cs (List.mem_cons_of_mem _ dn)),List.length_cons,Nat.succ_mul];omega
theorem nZ {zv:Value} {z:List K} {n:Nat} (hm:zv.cells.toList.mapM EN=some z) (jU:0<z.length):∀k,k<n->∃c,z[k % z.length]? =some c/\((Array.range n).map (zv.cells[· % zv.cells.size]!))[k]? =some c.val:=by
 intro k hk
 obtain⟨h1,h2⟩:=qn hm
 have eW:zv.cells.size=z.length:=by simpa using h1.symm
 have dE:k % z.length<z.length:=Nat.mod_lt _ jU
 refine⟨z[k % z.length],List.getElem?_eq_getElem dE,?_⟩
 have h3:=h2 _ _ (List.getElem?_eq_getElem dE)
 simp only[Array.getElem?_toList]at h3
 have z6:k % z.length<zv.cells.size:=by rw[eW];exact dE
 rw[Array.getElem?_map,Array.getElem?_range,if_pos hk]
 simp only[Option.map_some]
 rw[eW,getElem!_pos zv.cells (k % z.length) z6]
 rw[Array.getElem?_eq_getElem z6]at h3
 exact h3
theorem Hu {t e:TypeId} {len sz:Nat} {ps:Array (Nat×Operand)} {z:List K} {l:List (Nat×O)} {rs:List (List AV)} (E:bJ P w D ι env a) (ho:o.op=.buildSlice t len ps) (ht:P.underlying t=some (.slice e)) (eW:dK P e=some (sz+1)) (hz:jj P e=some z)
  (hl:qZ P ps=some l) (JB:len*(sz+1)<=4096) (OR:l.map (·.1)=List.range len) (hv:rowsOf (sz+1) (l.map fun x=>cF env x.2)=some rs):Mk P a o w D ι id (.own id 0 len) ⟨true,sz+1,rs⟩:=by
 obtain⟨it,zv,hi,uo,hs,hm,Dx⟩:=jA hz
 have jf:it.size=sz+1:=by simpa[dK,hi]using eW
 obtain⟨n1,r1⟩:=o9 E hl
 have FL:l.length=len:=by have:=congrArg List.length OR;simpa using this
 by_cases h0:len=0
 ·subst h0
  have KJ:l=[]:=List.length_eq_zero_iff.1 FL
  subst KJ
  simp[rowsOf]at hv;subst hv
  have Qv:ps= #[]:=by
   apply Array.ext';apply List.eq_nil_of_length_eq_zero;rw[<-n1];rfl
  subst Qv
  refine⟨.slice (some ⟨w.heap.size,0,none⟩) 0 0, #[],e,?_,rfl,by simp,by simp,by simp,fun i j cs x hi=>by simp at hi,fun ι' hι=>?_⟩
  ·simp[execOp,ho,Instr.buildSlice,run_underlying ht,sizeOf,typeInfo,hi,Instr.fill,newRow,Array.range_zero']
  ·exact .own _ 0 0 0 0 _ hι rfl (Nat.le_refl _) (.inl rfl) (by simp) (by simp[maxLen])
 ·have wZ:e6 P w D ι ((List.range (len*(sz+1))).map fun k=>(z.getD (k % z.length) .b4).av) ((Array.range (len*(sz+1))).map (zv.cells[· % zv.cells.size]!)):=by
   refine⟨by simp,fun j x hx=>?_⟩
   simp only[List.getElem?_map,Option.map_eq_some_iff]at hx
   obtain⟨k,hk,rfl⟩:=hx
   have lq:=(List.getElem?_eq_some_iff.1 hk).1
   simp at lq
   rw[List.getElem?_range lq]at hk
   injection hk with hk
   subst hk
   obtain⟨c,hc,Ry⟩:=nZ hm (by rw[Dx,jf];omega) j lq
   exact⟨c.val,Ry,by rw[List.getD_eq_getElem?_getD,hc];exact uK c⟩
  obtain⟨f1,f2,f3,f4⟩:=tU (l.map fun x=>cF env x.2) (sz+1) 0 rs ((List.range (len*(sz+1))).map fun k=>(z.getD (k % z.length) .b4).av) (by omega) (by simp[FL]) hv
  obtain⟨iV,h1,h2,h3,h4⟩:=tV (P:=P) (w:=w) (D:=D) (ι:=ι) (fun i=>some (i*it.size,it.size)) (ps.toList.map fun(i,x)=>(i,a.eval x)) _ _ _ _ wZ
   (fun b hb=>by obtain⟨c,_,rfl⟩:=List.mem_map.1 hb;exact K.lX _) (by simp[n1]) (fun k i u o' n x vz ug=>by
   simp only[List.getElem?_map,Option.map_eq_some_iff]at vz ug
   obtain⟨⟨i',x'⟩,hp,e1⟩:=vz
   obtain⟨⟨v2,j2⟩,Jy,e2⟩:=ug
   simp only[Prod.mk.injEq]at e1 e2
   obtain⟨rfl,rfl⟩:=e1
   obtain⟨rfl,rfl,rfl⟩:=e2
   rw[List.getElem?_zipIdx]at Jy
   simp only[List.getElem?_map,Option.map_map,Option.map_eq_some_iff,Function.comp_apply,Prod.mk.injEq,Nat.zero_add]at Jy
   obtain⟨⟨i2,y⟩,GY,rfl,rfl⟩:=Jy
   obtain⟨x2,wY,hc⟩:=r1 _ _ _ GY
   rw[hp]at wY
   simp only[Option.some.injEq,Prod.mk.injEq]at wY
   obtain⟨rfl,rfl⟩:=wY
   have wQ:(l.map (·.1))[k]? =some i':=by rw[List.getElem?_map,GY];rfl
   have lq:=(List.getElem?_eq_some_iff.1 wQ).1
   rw[OR]at wQ
   simp at lq
   rw[List.getElem?_range (by omega)]at wQ
   injection wQ with wQ
   subst wQ
   exact⟨by rw[jf],db E hc⟩) f1
  simp only[Nat.zero_mul,List.take_zero,List.nil_append,List.length_map]at h2 h3 h4 f2
  have dn:iV.size=len*(sz+1):=by rw[h2.1,h4];simp
  refine⟨.slice (some ⟨w.heap.size,0,none⟩) len len,iV,e,?_,rfl,?_,f3,f4,fun i j cs x pN hj=>h2.2 _ _ (flat_get f3 pN hj),fun ι' hι=>?_⟩
  ·have fI:=run_buildSlice (P:=P) w t e len (ps.map fun(i,x)=>(i,a.eval x)) iV it zv ht hi uo (by rw[jf];omega) (by rw[jf];exact Nat.mul_ne_zero h0 (by omega)) (by rw[<-jf]at h1;simpa using h1)
   simp only[execOp,ho,Sem.run_bind,fI,Result.andThen_ok,Sem.run_pure]
  ·dsimp only;rw[f2,FL,dn];exact Nat.le_refl _
  ·refine .own _ 0 len 0 len _ hι rfl (Nat.le_refl _) (.inr (by simp)) ?_ (by simp only[maxLen];have:=Nat.le_mul_of_pos_right len (show 0<sz+1 by omega);omega)
   dsimp only;rw[dn];simp
theorem EX {t e:TypeId} {it:TypeInfo} {m:Nat} {z:List K} {l c:Operand} {l' c':O} {n:Nat} {r:Row} (E:bJ P w D ι env a) (ho:o.op=.makeSlice t l c) (ht:P.underlying t=some (.slice e)) (eW:dK P e=some (m+1)) (hz:jj P e=some z) (Jo:P.info? e=some it) (hby:it.bytes<=32768)
  (hl:cO P l=some l') (hc:cO P c=some c') (hv:gS z (cF env l') (cF env c')=some (n,r)):Mk P a o w D ι id (.own id 0 n) r:=by
 obtain⟨it',zv,hi,uo,hs,hm,Dx⟩:=jA hz
 rw[Jo]at hi;injection hi with hi;subst hi
 have jf:it.size=m+1:=by simpa[dK,Jo]using eW
 unfold gS at hv
 split at hv
 ·rename_i k1 ln k2 cn e1 e2
  split at hv
  ·rename_i hb
   obtain⟨b1,b2,b3⟩:=hb
   simp at hv
   obtain⟨rfl,rfl⟩:=hv
   have r1:=de (e1▸db E hl)
   have r2:=de (e2▸db E hc)
   unfold dB at b3
   have KD:(it.bytes:Int)*cn<=281474976710656:=by
    have h1:(it.bytes:Int)<=32768:=by omega
    have h2:(it.bytes:Int)*cn<=32768*16777216:=Int.mul_le_mul h1 (by omega) (by omega) (by omega)
    omega
   have fI:=run_make (P:=P) w t e it zv ht Jo uo k1 k2 ln cn b1 b2 KD (by omega)
   have jW:∀k,k<cn.toNat*it.size->∃x,z[k % z.length]? =some x/\(madeCells zv.cells (cn.toNat*it.size))[k]? =some x.val:=fun k hk=>nZ hm (by rw[Dx,jf];omega) k hk
   refine⟨.slice (some ⟨w.heap.size,0,none⟩) ln.toNat cn.toNat,madeCells zv.cells (cn.toNat*it.size),e,by simp only[execOp,ho,r1,r2,Sem.run_bind,fI,Result.andThen_ok,Sem.run_pure],rfl,?_,?_,?_,?_,fun ι' hι=>?_⟩
   ·simp only[List.length_replicate,size_madeCells,Dx]
    exact Nat.mul_le_mul_right _ (by omega)
   ·intro cs dn
    have:=List.eq_of_mem_replicate dn
    subst this;simp
   ·intro cs dn x hx
    have:=List.eq_of_mem_replicate dn
    subst this
    obtain⟨c,_,rfl⟩:=List.mem_map.1 hx;exact c.lX
   ·intro i j cs x pN hj
    have kQ:=(List.getElem?_eq_some_iff.1 pN).1
    have:=List.eq_of_mem_replicate (List.mem_of_getElem? pN)
    subst this
    simp only[List.length_replicate]at kQ
    simp only[List.getElem?_map,Option.map_eq_some_iff]at hj
    obtain⟨q,hq,rfl⟩:=hj
    have gM:=(List.getElem?_eq_some_iff.1 hq).1
    dsimp only
    obtain⟨x,hx,wY⟩:=jW (i*z.length+j) (by
     rw[<-Dx]
     calc i*z.length+j<i*z.length+z.length:=by omega
      _=(i+1)*z.length:=by rw[Nat.add_mul,Nat.one_mul]
      _<=cn.toNat*z.length:=Nat.mul_le_mul_right _ (by omega))
    rw[Nat.mul_comm i,Nat.mul_add_mod,Nat.mod_eq_of_lt gM,hq]at hx
    injection hx with hx;subst hx
    exact⟨_,by rw[Nat.mul_comm i]at wY ⊢;exact wY,uK q⟩
   ·refine .own _ 0 _ 0 _ _ hι rfl (by omega) (.inr (by simp)) ?_ (by simp only[maxLen];omega)
    dsimp only;rw[size_madeCells,Dx];simp
  ·simp at hv
 ·simp at hv
end
end Go.Proofs.YtgoelphibofcmaaGreat.V

namespace Go.Proofs.YtgoelphibofcmaaGreat.V
open Go.RowKit
variable {P:Program} {w w':World} {D D':Nat->Prop} {ι ι':Names}
def C1 (P:Program) (k:TypeId) (m:MK):Prop:=
 (∃s,m=⟨false,[s]⟩/\eX P k=some s)∨
 (∃fs ts,m=⟨true,ts⟩/\P.underlying k=some (.struct fs)/\ez P 4 0 fs.toList=some ts/\P.stoodInHeld k=false/\∀f∈fs.toList,(eX P f.type).isSome=true)
theorem pY {t:TypeId} {m:MK} {z:K} (h:qY P t=some (m,z)):∃k e i zv,P.underlying t=some (.map k e)/\P.info? e=some i/\i.zero=some zv/\EN zv=some z/\C1 P k m:=by
 unfold qY at h
 split at h
 ·rename_i k e ht
  split at h
  ·rename_i zv s h1 h2 h3
   simp only[Option.map_eq_some_iff,Prod.mk.injEq]at h
   obtain⟨z',hz,rfl,rfl⟩:=h
   simp only[Option.bind_eq_some_iff]at h2
   obtain⟨i,hi,uo⟩:=h2
   exact⟨k,e,i,zv,ht,hi,uo,hz,.inl ⟨s,rfl,h3⟩⟩
  ·rename_i zv fs h1 h2 h3 h4
   split at h
   ·rename_i ts z' vZ hz
    split at h
    ·rename_i hc
     simp only[Option.some.injEq,Prod.mk.injEq]at h
     obtain⟨rfl,rfl⟩:=h
     simp only[Option.bind_eq_some_iff]at h2
     obtain⟨i,hi,uo⟩:=h2
     simp only[Bool.not_eq_true',List.all_eq_true]at hc
     exact⟨k,e,i,zv,ht,hi,uo,hz,.inr ⟨fs,ts,rfl,h4,vZ,hc.1,hc.2⟩⟩
    ·cases h
   ·cases h
  ·cases h
 ·cases h
theorem uP {t:TypeId} {s:TS} (ht:eX P t=some s) (em:Bool) (n:Nat) (v:Value):(Instr.checkKey em (n+1) t v).run P w=.ok () w:=by
 unfold Instr.checkKey
 cases s with
 |tB=>simp[run_underlying (ou ht)]
 |tS=>simp[run_underlying (ox ht)]
 |tI=>
  obtain⟨q,hq⟩:=ow ht
  simp[run_underlying hq]
theorem uQ (em:Bool) (n:Nat) (vs:Array Value):∀(d:Nat) (fs:List Field) (off:Nat) (ts:List TS),ez P (d+1) off fs=some ts->(∀f∈fs,(eX P f.type).isSome=true)->off+ts.length<=vs.size->
  Sem.run P (forIn fs PUnit.unit fun f (_:PUnit)=>if f.name≠ "_" then do
    let x <-Go.part f.type vs f.offset
    Instr.checkKey em (n+1) f.type x
    pure (ForInStep.yield PUnit.unit)
   else pure (ForInStep.yield PUnit.unit)) w=Result.ok PUnit.unit w
 |d,[],off,ts,_,_,_=>by simp
 |d,f::r,off,ts,hf,hs,hl=>by
  rw[wL]at hf
  split at hf
  ·rename_i hcond
   obtain⟨ho,gI⟩:=hcond
   split at hf
   ·rename_i s ND
    split at hf
    ·rename_i tb
     simp only[Option.map_eq_some_iff]at hf
     obtain⟨K2,hr,rfl⟩:=hf
     simp only[List.length_cons]at hl
     have ih:=uQ em n vs d r (off+1) K2 hr (fun f hf=>hs f (List.mem_cons_of_mem _ hf)) (by omega)
     have hu:vs[off]? =some vs[off]:=by simp
     simp only[List.forIn_cons,Sem.run_bind,if_pos gI,ho,lL tb hu,Result.andThen_ok,uP ND,Sem.run_pure]
     exact ih
    ·cases hf
   ·rename_i hn
    have:=hs f (by simp)
    rw[hn]at this;cases this
  ·cases hf
theorem Cz {k:TypeId} {m:MK} (hk:C1 P k m) (em:Bool) (key:AV) (u:Value) (tb:key.isAgg=m.ka) (hlen:key.cells.length=m.ks) (hr:cu P w D ι key u):(Instr.checkKey em 10000 k u).run P w=.ok () w:=by
 rcases hk with⟨s,rfl,hs⟩|⟨fs,ts,rfl,qd,vZ,dv,dy⟩
 ·exact uP hs em 9999 u
 ·cases key<;>simp[AV.isAgg]at tb
  rename_i cs
  obtain⟨vs,f,rfl,h1,_⟩:=iw hr
  unfold Instr.checkKey
  simp only[Sem.run_bind,run_underlying qd,Result.andThen_ok]
  rw[<-Array.forIn_toList]
  have h:=uQ (P:=P) (w:=w) em 9998 vs 3 fs.toList 0 ts vZ dy (by simp[AV.cells,MK.ks]at hlen;omega)
  rw[h]
  rfl
theorem Gd (a b:ByteArray):(a==b)=decide (a=b):=by
 by_cases h:a=b
 ·subst h;rw[decide_eq_true rfl]
  obtain⟨x⟩:=a
  show(x==x)=true
  simp
 ·rw[decide_eq_false h,Bool.eq_false_iff]
  intro hc
  obtain⟨x⟩:=a
  obtain⟨y⟩:=b
  exact h (by rw[show x=y by simpa using(show(x==y)=true from hc)])
theorem HZ {t:TypeId} {s:TS} {x y:AV} {u v:Value} {b:Bool} {d:TypeDesc} (ht:eX P t=some s) (hd:P.underlying t=some d) (he:fS s x y=some b) (hx:cu P w D ι x u) (hy:cu P w D ι y v):Instr.sameNow d u v=some b:=by
 unfold fS at he
 split at he
 ·rename_i k n k' n'
  split at he
  ·rename_i hk
   subst hk
   simp at he;subst he
   obtain⟨q,hq⟩:=ow ht
   rw[hd]at hq;injection hq with hq;subst hq
   rw[de hx,de hy]
   simp[Instr.sameNow]
   rfl
  ·cases he
 ·simp at he;subst he
  have hq:=ou ht
  rw[hd]at hq;injection hq with hq;subst hq
  rw[eQ hx,eQ hy];rfl
 ·rename_i a c
  simp at he;subst he
  have hq:=ox ht
  rw[hd]at hq;injection hq with hq;subst hq
  rw[fe hx,fe hy]
  simp only[Instr.sameNow,Gd]
 ·cases he
def Found (es:List MapEntry) (i:Nat) (r:Option Nat) (res:Option (Nat×Value)):Prop:=(r=none/\res=none)∨∃j e,r=some (i+j)/\es[j]? =some e/\res=some (i+j,e.val)
theorem tX {e:MapEntry} {es:List MapEntry} {i:Nat} {r:Option Nat} {res:Option (Nat×Value)} (h:Found es (i+1) r res):Found (e::es) i r res:=by
 rcases h with h|⟨j,x,h1,h2,h3⟩
 ·exact .inl h
 ·exact .inr ⟨j+1,x,by rw[h1];congr 1;omega,by simpa using h2,by rw[h3];congr 2;omega⟩
theorem zN {t:TypeId} {s:TS} {d:TypeDesc} {x:AV} {u:Value} (ht:eX P t=some s) (hd:P.underlying t=some d) (hx:cu P w D ι x u):∀(rows:List (List AV)) (es:List MapEntry) (i:Nat) (r:Option Nat),es.length=rows.length->
  (∀(j:Nat) (cs:List AV),rows[j]? =some cs->∃(e:MapEntry) (kv:AV),es[j]? =some e/\cs.head? =some kv/\cu P w D ι kv e.key)->fJ ⟨false,[s]⟩ [x] rows i=some r->∃res,Instr.findNow d u es i=some res/\Found es i r res
 |[],[],i,r,_,_,h=>by
  simp[fJ]at h;subst h
  exact⟨none,rfl,.inl ⟨rfl,rfl⟩⟩
 |[],e::es,i,r,hl,_,h=>by simp at hl
 |cs::rows,[],i,r,hl,_,h=>by simp at hl
 |cs::rows,e::es,i,r,hl,hr,h=>by
  obtain⟨e',kv,Jk,hk,gr⟩:=hr 0 cs rfl
  simp at Jk;subst Jk
  have dn:cs.take (MK.ks ⟨false,[s]⟩)=[kv]:=by
   cases cs with
   |nil=>simp at hk
   |cons a l=>simp at hk;subst hk;simp[MK.ks]
  unfold fJ at h
  rw[dn]at h
  cases hq:fS s x kv with
  |none=>simp[eU,hq]at h
  |some b=>
   have hs:=HZ ht hd hq hx gr
   cases b with
   |true=>
    simp[eU,hq]at h;subst h
    exact⟨some (i,e.val),by simp[Instr.findNow,hs],.inr ⟨0,e,rfl,rfl,rfl⟩⟩
   |false=>
    simp[eU,hq]at h
    obtain⟨res,h1,h2⟩:=zN ht hd hx rows es (i+1) r (by simpa using hl) (fun j cs hj=>hr (j+1) cs (by simpa using hj)) h
    exact⟨res,by simp[Instr.findNow,hs,h1],tX h2⟩
theorem oW {t:TypeId} {fs:Array Field} {ts:List TS} {xs ys:List AV} {vs us:Array Value} {b:Bool} (qd:P.underlying t=some (.struct fs)) (dv:P.stoodInHeld t=false) (vZ:ez P 4 0 fs.toList=some ts) (hx:e6 P w D ι xs vs) (hy:e6 P w D ι ys us) (hv:eU ts xs ys=some b):(Op.equal t (.agg vs) (.agg us)).run P w=.ok b w:=by
 obtain⟨l1,l2⟩:=qb hv
 have q:=qy (w:=w) 4 fs.toList 0 ts vZ 9998 (by omega) xs ys vs us b hx hy (by simpa[List.take_of_length_le,l1,l2]using hv)
 have GR:P.fieldsOf t=fs:=by simp[Program.fieldsOf,qd]
 unfold Op.equal
 rw[show Op.maxDepth=9999+1 from rfl,run_equalIn_struct w 9999 t _ _ (by rw[GR];exact qd) dv,GR,q]
theorem qv {cs:List AV} {v:Value} (h:cu P w D ι (.agg cs) v):∃vs,v=.agg vs/\e6 P w D ι cs vs:=by
 obtain⟨vs,f,rfl,n1,_,f1,r1⟩:=iw h
 exact⟨vs,rfl,n1,fun j a ha=>⟨f j,f1 j (List.getElem?_eq_some_iff.1 ha).1,r1 j a ha⟩⟩
theorem zM {t:TypeId} {fs:Array Field} {ts:List TS} {xs:List AV} {vs:Array Value} (qd:P.underlying t=some (.struct fs)) (dv:P.stoodInHeld t=false) (vZ:ez P 4 0 fs.toList=some ts) (hx:e6 P w D ι xs vs):∀(rows:List (List AV)) (es:List MapEntry) (i:Nat) (r:Option Nat),es.length=rows.length->
  (∀(j:Nat) (cs:List AV),rows[j]? =some cs->∃e:MapEntry,es[j]? =some e/\cu P w D ι (.agg (cs.take ts.length)) e.key)->fJ ⟨true,ts⟩ xs rows i=some r->∃res,(Instr.findAsking t (.agg vs) es i).run P w=.ok res w/\Found es i r res
 |[],[],i,r,_,_,h=>by
  simp[fJ]at h;subst h
  exact⟨none,by simp[Instr.findAsking],.inl ⟨rfl,rfl⟩⟩
 |[],e::es,i,r,hl,_,h=>by simp at hl
 |cs::rows,[],i,r,hl,_,h=>by simp at hl
 |cs::rows,e::es,i,r,hl,hr,h=>by
  obtain⟨e',Jk,gr⟩:=hr 0 cs rfl
  simp at Jk;subst Jk
  obtain⟨us,hk,hy⟩:=qv gr
  unfold fJ at h
  simp only[MK.ks]at h
  split at h
  ·rename_i hq
   simp at h;subst h
   have q:=oW qd dv vZ hx hy hq
   exact⟨some (i,e.val),by simp[Instr.findAsking,hk,q],.inr ⟨0,e,rfl,rfl,rfl⟩⟩
  ·rename_i hq
   have q:=oW qd dv vZ hx hy hq
   obtain⟨res,h1,h2⟩:=zM qd dv vZ hx rows es (i+1) r (by simpa using hl) (fun j cs hj=>hr (j+1) cs (by simpa using hj)) h
   exact⟨res,by simp[Instr.findAsking,hk,q,h1],tX h2⟩
  ·cases h
theorem tN {a:AV} (h:a.isAgg=false):a.cells=[a]:=by cases a<;>simp_all [AV.isAgg,AV.cells]
theorem tW {k:TypeId} {m:MK} {B:qO} {r:Row} (hk:C1 P k m) {key:AV} {u:Value} (hr:cu P w D ι key u) {es:Array MapEntry} (eW:es.size=r.rows.length)
  (hM:∀(i:Nat) (cs:List AV),r.rows[i]? =some cs->∃(e:MapEntry) (kv vv:AV),es[i]? =some e/\part m.ka m.ks cs=some kv/\cs[m.ks]? =some vv/\cu P w D ι kv e.key/\cu P w D ι vv e.val) {fi:Option Nat} (h:fx m key r.rows=some fi):
  (∀em,(Instr.checkKey em 10000 k u).run P w=.ok () w)/\∃res,(Instr.findKey k u es.toList).run P w=.ok res w/\Found es.toList 0 fi res:=by
 unfold fx at h
 split at h
 ·rename_i hc
  obtain⟨c1,c2,c3⟩:=hc
  refine⟨fun em=>Cz hk em key u c1 c2 hr,?_⟩
  rcases hk with⟨s,rfl,hs⟩|⟨fs,ts,rfl,qd,vZ,dv,dy⟩
  ·rw[tN c1]at h
   have hd:∃d,P.underlying k=some d:=by
    cases s with
    |tB=>exact⟨_,ou hs⟩
    |tS=>exact⟨_,ox hs⟩
    |tI=>obtain⟨q,hq⟩:=ow hs;exact⟨_,hq⟩
   obtain⟨d,hd⟩:=hd
   obtain⟨res,h1,h2⟩:=zN hs hd hr r.rows es.toList 0 fi (by simpa using eW) (fun j cs hj=>by
    obtain⟨e,kv,vv,q1,q2,_,q4,_⟩:=hM j cs hj
    exact⟨e,kv,by simpa using q1,by simpa[part]using q2,q4⟩) h
   exact⟨res,by simp[Instr.findKey,run_underlying hd,h1],h2⟩
  ·cases key<;>simp[AV.isAgg]at c1
   rename_i cs
   obtain⟨vs,rfl,hL⟩:=qv hr
   obtain⟨res,h1,h2⟩:=zM qd dv vZ hL r.rows es.toList 0 fi (by simpa using eW) (fun j cs hj=>by
    obtain⟨e,kv,vv,q1,q2,_,q4,_⟩:=hM j cs hj
    unfold part at q2
    simp only[if_true]at q2
    split at q2
    ·simp only[Option.some.injEq]at q2;subst q2
     exact⟨e,by simpa using q1,q4⟩
    ·cases q2) h
   exact⟨res,(run_findKey_eq w (by simp[qd]) _ _).trans h1,h2⟩
 ·cases h
section
variable {g:Rows} {hs:Nat} {env:Env} {a:Act} {o:Oper} {id:Id} {v:AV}
theorem yz {m:MK} {x:AV} {u:Value} {p:Id×Row} (S:fR P hs D ι g w) (hr:cu P w D ι x u) (h:dV g m x=some p):∃B,u=.map (some B.b)/\g p.1=some p.2/\ι p.1=some B/\B.k=some (.map m)/\Kr P w D ι B m p.2:=by
 unfold dV at h
 split at h
 ·rename_i i m'
  split at h
  ·rename_i hm
   subst hm
   simp only[Option.map_eq_some_iff]at h
   obtain⟨r,hg,rfl⟩:=h
   obtain⟨B,rfl,hB,hk⟩:=DL hr
   obtain⟨B',dr,R,_⟩:=S.row i r hg
   rw[hB]at dr;injection dr with dr;subst dr
   exact⟨B,rfl,hg,hB,hk,(R.map _ hk).2⟩
  ·cases h
 ·cases h
theorem Nb {t:TypeId} {x k:Operand} {ok:Bool} {m:MK} {z:K} {x' k':O} {mr:Option Row} (S:fR P hs D ι g w) (E:bJ P w D ι env a) (ho:o.op=.lookup t x k ok) (hc:qY P t=some (m,z)) (hx:cO P x=some x') (hk:cO P k=some k')
  (hv:bw (.look m ok z) [cF env x',cF env k'] g id=some (v,mr)):mr=none/\nr P a o w D ι v:=by
 obtain⟨kt,e,i,zv,ht,hi,uo,Qn,hK⟩:=pY hc
 simp only[bw,Option.bind_eq_some_iff,Option.map_eq_some_iff,Prod.mk.injEq]at hv
 obtain⟨p,hp,fi,EA,y,hy,rfl,rfl⟩:=hv
 obtain⟨B,hu,hg,hB,ta,es,clock,hb,eW,hlen,hM⟩:=yz S (db E hx) hp
 obtain⟨IG,res,hf,hF⟩:=tW (B:=B) hK (db E hk) eW hM EA
 have key:∃val,(match res with|some (_,v)=>(v,true)|none=>(zv,false))=(val,fi.isSome)/\cu P w D ι y val:=by
  rcases hF with⟨rfl,rfl⟩|⟨j,en,rfl,he,rfl⟩
  ·simp only[ea,Option.some.injEq]at hy;subst hy
   refine⟨zv,rfl,?_⟩
   rw[yn Qn];exact uK z
  ·simp only[ea,Option.bind_eq_some_iff,Nat.zero_add]at hy
   obtain⟨cs,dn,hy⟩:=hy
   obtain⟨e',kv,vv,q1,_,q3,_,q5⟩:=hM _ cs dn
   rw[hy]at q3;injection q3 with q3;subst q3
   have:e'=en:=by
    have h1:es.toList[j]? =some e':=by simpa using q1
    rw[he]at h1;injection h1 with h1;exact h1.symm
   subst this
   exact⟨_,rfl,q5⟩
 obtain⟨val,rE,kS⟩:=key
 have gL:(getObj B.b).run P w=.ok (.map es clock) w:=MapKept.run_getObj_map hb
 have hz:(zeroValue e).run P w=.ok zv w:=by simp[zeroValue,typeInfo,hi,uo]
 refine⟨rfl,if ok then .tuple #[val,.bool fi.isSome]else val,?_,?_⟩
 ·simp only[execOp,ho,hu,Instr.lookup,Sem.run_bind,run_underlying ht,Result.andThen_ok,gL,Sem.run_pure,IG,hf]
  rcases hF with⟨rfl,rfl⟩|⟨j,en,rfl,he,rfl⟩
  ·simp only[Prod.mk.injEq]at rE
   simp[hz,rE.1]
  ·simp only[Prod.mk.injEq]at rE
   simp[rE.1]
 ·cases ok with
  |false=>exact kS
  |true=>
   refine .gn _ _ (fun j=>if j=0 then val else .bool fi.isSome) rfl (fun j hj=>?_) (fun j b hj=>?_)
   ·have:j=0∨j=1:=by simp at hj;omega
    rcases this with rfl|rfl<;>rfl
   ·match j,hj with
    |0,hj=>simp at hj;subst hj;exact kS
    |1,hj=>simp at hj;subst hj;exact .eD _ _ (.bool _)
    |j+2,hj=>simp at hj
theorem Nf {t:TypeId} {x:Operand} {m:MK} {z:K} {x':O} {mr:Option Row} (S:fR P hs D ι g w) (E:bJ P w D ι env a) (ho:o.op=.call {callee:=.builtin .len,args:= #[x],argTypes:= #[t]}) (hc:qY P t=some (m,z)) (hx:cO P x=some x')
  (hv:bw (.len m) [cF env x'] g id=some (v,mr)):mr=none/\nr P a o w D ι v:=by
 obtain⟨kt,e,i,zv,ht,hi,uo,Qn,hK⟩:=pY hc
 simp only[bw,Option.map_eq_some_iff,Prod.mk.injEq]at hv
 obtain⟨p,hp,rfl,rfl⟩:=hv
 obtain⟨B,hu,hg,hB,ta,es,clock,hb,eW,hlen,hM⟩:=yz S (db E hx) hp
 have gL:(getObj B.b).run P w=.ok (.map es clock) w:=MapKept.run_getObj_map hb
 refine⟨rfl,.int .i64 (es.size:Int),?_,by rw[eW];exact .eD _ _ (.int _ _)⟩
 simp only[execOp,ho,resolve,Sem.run_bind,Sem.run_pure,Result.andThen_ok,invoke,builtin,Array.map,hu]
 simp[Builtin.len_,run_underlying ht,goInt,hu,gL]
def MkM (P:Program) (a:Act) (o:Oper) (w:World) (id:Id) (v:AV) (r:Row):Prop:=
 ∃m,(execOp a.eval o).run P w=.ok (.value (.map (some w.heap.size))) (w.alloc (.map #[] 0))/\v=.map id m/\r=⟨true,m.oq,[]⟩
theorem Pf {t:TypeId} {m:MK} (ho:o.op=.makeMap t none):MkM P a o w id (.map id m) ⟨true,m.oq,[]⟩:=by
 refine⟨m,?_,rfl,rfl⟩
 simp[execOp,ho,Instr.makeMap,go_sem]
def MkC (P:Program) (a:Act) (o:Oper) (w:World) (id:Id) (v:AV) (r:Row):Prop:=
 ∃n,(execOp a.eval o).run P w=.ok (.value (.chan (some w.heap.size))) (w.alloc (.chan n #[] false 0 0 false))/\v=.p7 id/\r=⟨true,pd+n,[]⟩
theorem Mu {t e:TypeId} {x:Operand} {x':O} {dir:ChanDir} {i:TypeInfo} {n:Nat} (E:bJ P w D ι env a) (ho:o.op=.makeChan t x) (ht:P.underlying t=some (.chan dir e)) (hi:P.info? e=some i) (hb:i.bytes<=32768) (hx:cO P x=some x') (hn:cV (cF env x')=some n):MkC P a o w id (.p7 id) ⟨true,pd+n,[]⟩:=by
 refine⟨n,?_,rfl,rfl⟩
 have hr:=db E hx
 unfold cV at hn
 split at hn
 ·rename_i k m hm
  rw[hm]at hr
  split at hn
  ·rename_i hc
   simp only[Option.some.injEq]at hn
   subst hn
   have IP:((m.toNat:Nat):Int)=m:=by omega
   have dE:(i.bytes:Int)*(m.toNat:Nat)<=281474976710544:=by
    have h1:i.bytes*m.toNat<=32768*1048576:=Nat.mul_le_mul hb (by omega)
    have h2:((i.bytes*m.toNat:Nat):Int)<=281474976710544:=by omega
    rwa [Int.natCast_mul]at h2
   have h:=Conc.run_makeChan (P:=P) (w:=w) ht hi k m.toNat (by omega) dE
   rw[IP]at h
   simp only[execOp,ho,de hr,Sem.run_bind,h,Result.andThen_ok,Sem.run_pure]
  ·cases hn
 ·cases hn
theorem xV {x:AV} {u:Value} {i:Id} {r:Row} (S:fR P hs D ι g w) (hr:cu P w D ι x u) (hx:x=.p7 i) (hg:g i=some r):∃B c,u=.chan (some B.b)/\ι i=some B/\B.k=some (.chan c)/\r.sz=pd+c/\FY P w D ι B c r:=by
 subst hx
 obtain⟨B,c,rfl,hB,hk⟩:=J6 hr
 obtain⟨B',dr,R,_⟩:=S.row i r hg
 rw[hB]at dr;injection dr with dr;subst dr
 exact⟨B,c,rfl,hB,hk,R.chan c hk⟩
theorem M8 {t e:TypeId} {dir:ChanDir} {x:Operand} {x':O} (S:fR P hs D ι g w) (E:bJ P w D ι env a) (ho:o.op=.call {callee:=.builtin .len,args:= #[x],argTypes:= #[t]}) (ht:P.underlying t=some (.chan dir e)) (hx:cO P x=some x') (hv:cR g (cF env x')=some v):nr P a o w D ι v:=by
 have hr:=db E hx
 unfold cR at hv
 split at hv
 ·rename_i i he
  simp only[Option.map_eq_some_iff]at hv
  obtain⟨r,hg,rfl⟩:=hv
  obtain⟨B,c,hu,hB,hk,eW,buf,s,q,hb,IF,_⟩:=xV S hr he hg
  have gL:(getObj B.b).run P w=.ok (.chan c buf false s q false) w:=by simp[getObj,Sem.run,hb]
  refine⟨.int .i64 (buf.size:Int),?_,by rw[IF];exact .eD _ _ (.int _ _)⟩
  simp only[execOp,ho,resolve,Sem.run_bind,Sem.run_pure,Result.andThen_ok,invoke,builtin,Array.map,hu]
  simp[Builtin.len_,run_underlying ht,goInt,hu,gL]
 ·cases hv
end
end Go.Proofs.YtgoelphibofcmaaGreat.V

namespace Go.Proofs.YtgoelphibofcmaaGreat.V
open Go.RowKit
variable {P:Program} {w w':World} {D D':Nat->Prop} {ι ι':Names}
def IX (P:Program) (a:Act) (o:Oper) (w:World) (D:Nat->Prop) (ι:Names) (id:Id) (v:AV):Option Row->Prop
 |none=>nr P a o w D ι v
 |some r=>Mk P a o w D ι id v r∨MkM P a o w id v r∨MkC P a o w id v r
section
variable {g:Rows} {hs:Nat} {env:Env} {a:Act} {o:Oper} {id:Id} {v:AV}
theorem kJ {x:Option AV} {mr:Option Row} (h:x.map (·,(none:Option Row))=some (v,mr)) (H:x=some v->nr P a o w D ι v):IX P a o w D ι id v mr:=by
 cases x with
 |none=>simp at h
 |some y=>simp at h;obtain⟨rfl,rfl⟩:=h;exact H rfl
theorem Pq {neg:Bool} {t yt:TypeId} {x y:Operand} {vo:fX} {mr:Option Row} (ho:o.op=.binOp (if neg then .neq else .eql) t x y yt) (hc:qW P neg t x y=some vo) (hq:eG vo (cF env) g id=some (v,mr)) (E:bJ P w D ι env a):IX P a o w D ι id v mr:=by
 unfold qW at hc
 split at hc
 ·split at hc
  ·rename_i e ht
   simp only[Option.map_eq_some_iff]at hc
   obtain⟨x',hx,rfl⟩:=hc
   simp only[eG,eh,Bool.false_eq_true,if_false,Option.map_eq_some_iff,Prod.mk.injEq]at hq
   obtain⟨b,hb,rfl,rfl⟩:=hq
   exact M4 E ho ht hx hb
  ·simp at hc
 ·split at hc
  ·rename_i ht
   simp only[Option.map_eq_some_iff]at hc
   obtain⟨x',hx,rfl⟩:=hc
   simp only[eG,eh,if_true,Option.map_eq_some_iff,Prod.mk.injEq]at hq
   obtain⟨b,hb,rfl,rfl⟩:=hq
   exact M3 E ho ht hx hb
  ·simp at hc
 ·split at hc
  ·rename_i ht
   simp only[Option.map_eq_some_iff]at hc
   obtain⟨x',hx,rfl⟩:=hc
   simp only[eG,Option.map_eq_some_iff,Prod.mk.injEq]at hq
   obtain⟨b,hb,rfl,rfl⟩:=hq
   exact PI E ho ht hx hb
  ·simp at hc
 ·split at hc
  ·rename_i s hs
   simp only[Option.bind_eq_bind,Option.bind_eq_some_iff,Option.pure_def,Option.some.injEq]at hc
   obtain⟨x',hx,y',hy,rfl⟩:=hc
   simp only[eG,Option.map_eq_some_iff,Prod.mk.injEq]at hq
   obtain⟨b,hb,rfl,rfl⟩:=hq
   have Aa:eX P t=some s:=by
    unfold Q1 at hs
    split at hs
    ·rename_i s' h;simp at hs;subst hs;exact h
    ·split at hs
     ·split at hs
      ·simp at hs
      ·simp at hs
     ·simp at hs
   exact PJ E ho Aa hx hy hb
  ·rename_i ts hs
   simp only[Option.bind_eq_bind,Option.bind_eq_some_iff,Option.pure_def,Option.some.injEq]at hc
   obtain⟨x',hx,y',hy,rfl⟩:=hc
   simp only[eG]at hq
   split at hq
   ·rename_i xs ys h1 h2
    simp only[Option.map_eq_some_iff,Prod.mk.injEq]at hq
    obtain⟨b,hb,rfl,rfl⟩:=hq
    unfold Q1 at hs
    split at hs
    ·simp at hs
    ·split at hs
     ·rename_i fs qd
      split at hs
      ·rename_i hg
       simp only[Option.map_eq_some_iff,QQ.ag.injEq]at hs
       obtain⟨K2,vZ,rfl⟩:=hs
       simp only[Bool.and_eq_true,Bool.not_eq_true']at hg
       exact PH E ho qd hg.1 hg.2 vZ hx hy h1 h2 hb
      ·simp at hs
     ·simp at hs
   ·simp at hq
  ·simp at hc
theorem MB {c:Call} {vo:fX} {mr:Option Row} (ho:o.op=.call c) (hc:mo P c=some vo) (hq:eG vo (cF env) g id=some (v,mr)) (S:fR P hs D ι g w) (E:bJ P w D ι env a):IX P a o w D ι id v mr:=by
 unfold mo at hc
 split at hc
 ·rename_i jY
  split at hc
  ·rename_i x t h1 h2
   have hce:c={callee:=.builtin .len,args:= #[x],argTypes:= #[t]}:=by
    obtain⟨a,b,c⟩:=c
    simp only at h1 h2 jY
    subst jY
    congr
    ·exact Array.ext' h1
    ·exact Array.ext' h2
   rw[hce]at ho
   split at hc
   ·rename_i e ht
    simp only[Option.map_eq_some_iff]at hc
    obtain⟨x',hx,rfl⟩:=hc
    simp only[eG,Option.map_eq_some_iff,Prod.mk.injEq]at hq
    obtain⟨n,hn,rfl,rfl⟩:=hq
    exact PK E ho ht hx hn
   ·rename_i ht
    simp only[Option.map_eq_some_iff]at hc
    obtain⟨x',hx,rfl⟩:=hc
    exact kJ hq fun h=>M9 E ho ht hx h
   ·split at hc
    ·rename_i m z x' hm hx
     simp only[Option.some.injEq]at hc
     subst hc
     obtain⟨rfl,h⟩:=Nf (id:=id) S E ho hm hx hq
     exact h
    ·cases hc
   ·rename_i ht
    simp only[Option.map_eq_some_iff]at hc
    obtain⟨x',hx,rfl⟩:=hc
    exact kJ hq fun h=>M8 S E ho ht hx h
   ·simp at hc
  ·simp at hc
 ·split at hc
  ·split at hc
   ·split at hc
    ·split at hc
     ·simp only[Option.bind_eq_bind,Option.bind_eq_some_iff,Option.pure_def,Option.some.injEq]at hc
      obtain⟨x',hx,y',hy,rfl⟩:=hc
      simp[eG]at hq
     ·simp at hc
    ·simp at hc
   ·simp at hc
  ·simp at hc
 ·split at hc
  ·split at hc
   ·split at hc
    ·simp only[Option.map_eq_some_iff]at hc
     obtain⟨x',hx,rfl⟩:=hc
     simp[eG]at hq
    ·simp at hc
   ·simp at hc
  ·simp at hc
 ·split at hc
  ·simp only[Option.map_eq_some_iff]at hc
   obtain⟨x',hx,rfl⟩:=hc
   simp[eG]at hq
  ·simp at hc
 ·simp only[Option.map_eq_some_iff]at hc
  obtain⟨x',hx,rfl⟩:=hc
  simp[eG]at hq
 ·split at hc
  ·split at hc
   ·simp only[Option.some.injEq]at hc
    subst hc
    simp[eG]at hq
   ·cases hc
  ·cases hc
 ·split at hc
  ·split at hc
   ·split at hc
    ·simp only[Option.bind_eq_bind,Option.bind_eq_some_iff,Option.pure_def,Option.some.injEq]at hc
     obtain⟨x',hx,y',hy,rfl⟩:=hc
     simp[eG]at hq
    ·simp at hc
   ·simp at hc
  ·simp at hc
 ·simp at hc
theorem xt {vo:fX} {mr:Option Row} (hc:pM P o.op=some vo) (hq:eG vo (cF env) g id=some (v,mr)) (S:fR P hs D ι g w) (E:bJ P w D ι env a):IX P a o w D ι id v mr:=by
 unfold pM at hc
 split at hc
 ·rename_i ho
  simp only[Option.map_eq_some_iff]at hc
  obtain⟨x',hx,rfl⟩:=hc
  simp[eG]at hq;obtain⟨rfl,rfl⟩:=hq
  exact K4 E (.inl ho) hx
 ·rename_i ho
  simp only[Option.map_eq_some_iff]at hc
  obtain⟨x',hx,rfl⟩:=hc
  simp[eG]at hq;obtain⟨rfl,rfl⟩:=hq
  exact K4 E (.inr ho) hx
 ·rename_i ho
  simp only[Option.bind_eq_bind,Option.bind_eq_some_iff,Option.pure_def,Option.some.injEq]at hc
  obtain⟨c',h1,x',h2,y',h3,rfl⟩:=hc
  exact kJ hq fun h=>Ng E ho h1 h2 h3 h
 ·rename_i ho
  simp only[Option.map_eq_some_iff]at hc
  obtain⟨z,hz,rfl⟩:=hc
  simp only[eG,Option.some.injEq,Prod.mk.injEq]at hq
  obtain⟨rfl,rfl⟩:=hq
  exact .inl (Pg ho hz)
 ·rename_i ho
  simp only[Option.map_eq_some_iff]at hc
  obtain⟨x',hx,rfl⟩:=hc
  simp only[eG,Option.map_eq_some_iff,Prod.mk.injEq]at hq
  obtain⟨cs,dn,rfl,rfl⟩:=hq
  exact .inl (Pe E ho hx dn)
 ·rename_i ho
  simp only[Option.bind_eq_bind,Option.bind_eq_some_iff,Option.pure_def,Option.some.injEq]at hc
  obtain⟨ag,h1,n,h2,x',h3,rfl⟩:=hc
  exact kJ hq fun h=>Na S E ho h1 h2 h3 h
 ·rename_i ho
  simp only[Option.bind_eq_bind,Option.bind_eq_some_iff,Option.pure_def,Option.some.injEq]at hc
  obtain⟨n,h2,x',h3,y',h4,rfl⟩:=hc
  simp[eG]at hq
 ·rename_i ho
  simp only[Option.map_eq_some_iff]at hc
  obtain⟨x',hx,rfl⟩:=hc
  exact kJ hq fun h=>PG E ho hx h
 ·rename_i op t x y yt ho
  unfold tG at hc
  split at hc
  ·exact Pq (neg:=false) ho hc hq E
  ·exact Pq (neg:=true) ho hc hq E
  ·simp only[Option.bind_eq_bind,Option.bind_eq_some_iff,Option.pure_def,Option.some.injEq]at hc
   obtain⟨x',h3,y',h4,rfl⟩:=hc
   exact kJ hq fun h=>PN (left:=true) E ho h3 h4 h
  ·simp only[Option.bind_eq_bind,Option.bind_eq_some_iff,Option.pure_def,Option.some.injEq]at hc
   obtain⟨x',h3,y',h4,rfl⟩:=hc
   exact kJ hq fun h=>PN (left:=false) E ho h3 h4 h
  ·rename_i n1 n2 n3 n4
   split at hc
   ·simp only[Option.bind_eq_bind,Option.bind_eq_some_iff,Option.pure_def,Option.some.injEq]at hc
    obtain⟨x',h3,y',h4,rfl⟩:=hc
    exact kJ hq fun h=>PF E ho n1 n2 h3 h4 h
   ·simp only[Option.bind_eq_bind,Option.bind_eq_some_iff,Option.pure_def,Option.some.injEq]at hc
    obtain⟨x',h3,y',h4,rfl⟩:=hc
    exact kJ hq fun h=>M0 E ho n1 n2 h3 h4 h
   ·simp at hc
 ·rename_i ho
  simp only[Option.map_eq_some_iff]at hc
  obtain⟨x',hx,rfl⟩:=hc
  exact kJ hq fun h=>PM E ho hx h
 ·rename_i ho
  simp only[Option.map_eq_some_iff]at hc
  obtain⟨x',hx,rfl⟩:=hc
  exact kJ hq fun h=>PL E ho hx h
 ·rename_i ho
  split at hc
  ·rename_i q k h1 h2
   simp only[Option.map_eq_some_iff]at hc
   obtain⟨x',hx,rfl⟩:=hc
   exact kJ hq fun h=>M1 E ho h1 h2 hx h
  ·rename_i h1 h2
   simp only[Option.map_eq_some_iff]at hc
   obtain⟨x',hx,rfl⟩:=hc
   exact kJ hq fun h=>by
    have hr:=db E hx
    unfold bP at h
    split at h
    ·rename_i s hb
     simp at h;subst h
     rw[hb]at hr
     exact⟨.string s,by simp only[execOp,ho,fe hr,convert,Sem.run_bind,run_underlying h1,run_underlying h2,Result.andThen_ok,Sem.run_pure],.eD _ _ (.str _)⟩
    ·simp at h
  ·simp at hc
 ·rename_i ho
  split at hc
  ·rename_i e ht
   simp only[Option.bind_eq_bind,Option.bind_eq_some_iff,Option.pure_def,Option.some.injEq]at hc
   obtain⟨n,h1,x',h2,lo,h3,hi,h4,rfl⟩:=hc
   exact kJ hq fun h=>Kn S E ho ht h1 h2 h3 h4 h
  ·rename_i ht
   simp only[Option.bind_eq_bind,Option.bind_eq_some_iff,Option.pure_def,Option.some.injEq]at hc
   obtain⟨x',h2,lo,h3,hi,h4,rfl⟩:=hc
   exact kJ hq fun h=>IA E ho ht h2 h3 h4 h
  ·simp at hc
 ·rename_i ho
  split at hc
  ·rename_i fs qd
   split at hc
   ·rename_i f hf
    split at hc
    ·rename_i m hm
     simp only[Option.map_eq_some_iff]at hc
     obtain⟨x',hx,rfl⟩:=hc
     exact kJ hq fun h=>Kk E ho qd hf hm hx h
    ·simp at hc
   ·simp at hc
  ·simp at hc
 ·rename_i ho
  split at hc
  ·rename_i fs qd
   split at hc
   ·rename_i f hf
    simp only[Option.bind_eq_bind,Option.bind_eq_some_iff,Option.pure_def,Option.some.injEq]at hc
    obtain⟨ag,h1,n,h2,x',h3,rfl⟩:=hc
    exact kJ hq fun h=>Kl E ho qd hf h1 h2 h3 h
   ·simp at hc
  ·simp at hc
 ·rename_i ho
  split at hc
  ·rename_i e ht
   split at hc
   ·rename_i m hm
    simp only[Option.bind_eq_bind,Option.bind_eq_some_iff,Option.pure_def,Option.some.injEq]at hc
    obtain⟨x',h1,i',h2,rfl⟩:=hc
    exact kJ hq fun h=>Km S E ho ht hm h1 h2 h
   ·simp at hc
  ·rename_i len e ht
   split at hc
   ·rename_i m hm
    simp only[Option.bind_eq_bind,Option.bind_eq_some_iff,Option.pure_def,Option.some.injEq]at hc
    obtain⟨x',h1,i',h2,rfl⟩:=hc
    exact kJ hq fun h=>M5 E ho ht hm h1 h2 h
   ·simp at hc
  ·simp at hc
 ·rename_i ho
  split at hc
  ·rename_i ht
   simp only[Option.bind_eq_bind,Option.bind_eq_some_iff,Option.pure_def,Option.some.injEq]at hc
   obtain⟨x',h1,i',h2,rfl⟩:=hc
   exact kJ hq fun h=>M7 E ho ht h1 h2 h
  ·rename_i len e ht
   simp only[Option.bind_eq_bind,Option.bind_eq_some_iff,Option.pure_def,Option.some.injEq]at hc
   obtain⟨ag,h0,n,h1,x',h2,i',h3,rfl⟩:=hc
   exact kJ hq fun h=>M6 E ho ht h0 h1 h2 h3 h
  ·simp at hc
 ·rename_i ho
  simp only[Option.map_eq_some_iff]at hc
  obtain⟨x',hx,rfl⟩:=hc
  exact kJ hq fun h=>FF E ho hx h
 ·rename_i ho
  split at hc
  ·rename_i fs qd
   split at hc
   ·rename_i z l hz hl
    split at hc
    ·rename_i dy
     simp only[Option.map_eq_some_iff]at hc
     obtain⟨q,Jy,rfl⟩:=hc
     simp only[eG,Option.map_eq_some_iff,Prod.mk.injEq]at hq
     obtain⟨cs,dn,rfl,rfl⟩:=hq
     exact Kj E ho qd hz hl (fun f hf=>by
      rw[Array.all_eq_true_iff_forall_mem]at dy
      exact dy f (Array.mem_toList_iff.1 hf)) Jy dn
    ·simp at hc
   ·simp at hc
  ·rename_i len e ht
   split at hc
   ·rename_i z l n hz hl hn
    simp only[Option.some.injEq]at hc
    subst hc
    simp only[eG,Option.map_eq_some_iff,Prod.mk.injEq]at hq
    obtain⟨cs,dn,rfl,rfl⟩:=hq
    exact Iz E ho ht hz hl hn dn
   ·simp at hc
  ·simp at hc
 ·rename_i ho
  split at hc
  ·rename_i e ht
   split at hc
   ·rename_i sz z l h1 h2 h3
    split at hc
    ·rename_i hh
     simp only[Option.some.injEq]at hc
     subst hc
     simp only[eG,Option.map_eq_some_iff,Prod.mk.injEq]at hq
     obtain⟨rs,wU,rfl,rfl⟩:=hq
     exact .inl (Hu E ho ht h1 h2 h3 hh.1 hh.2 (by rw[List.map_map]at wU;exact wU))
    ·simp at hc
   ·simp at hc
  ·simp at hc
 ·rename_i ho
  split at hc
  ·rename_i hh
   simp only[Option.map_eq_some_iff]at hc
   obtain⟨l,hl,rfl⟩:=hc
   simp[eG]at hq;obtain⟨rfl,rfl⟩:=hq
   exact Nc E ho hh.1 hh.2 hl
  ·split at hc
   ·rename_i hh
    simp only[Option.map_eq_some_iff]at hc
    obtain⟨l,hl,rfl⟩:=hc
    simp[eG]at hq;obtain⟨rfl,rfl⟩:=hq
    exact Nd E ho hh.1 hh.2 hl
   ·simp at hc
 ·rename_i ho
  split at hc
  ·rename_i e ht
   split at hc
   ·rename_i m z i h1 h2 h3
    split at hc
    ·rename_i hb
     simp only[Option.bind_eq_bind,Option.bind_eq_some_iff,Option.pure_def,Option.some.injEq]at hc
     obtain⟨l',h4,c',h5,rfl⟩:=hc
     simp only[eG,Option.map_eq_some_iff,Prod.mk.injEq]at hq
     obtain⟨⟨n,r⟩,hr,rfl,rfl⟩:=hq
     exact .inl (EX E ho ht h1 h2 h3 hb h4 h5 hr)
    ·simp at hc
   ·simp at hc
  ·simp at hc
 ·rename_i ho
  exact MB ho hc hq S E
 ·rename_i ho
  split at hc
  ·rename_i dir e ht
   split at hc
   ·rename_i i hi
    split at hc
    ·rename_i hb
     simp only[Option.map_eq_some_iff]at hc
     obtain⟨x',hx,rfl⟩:=hc
     simp only[eG,Option.map_eq_some_iff,Prod.mk.injEq]at hq
     obtain⟨n,hn,rfl,rfl⟩:=hq
     exact .inr (.inr (Mu E ho ht hi hb hx hn))
    ·cases hc
   ·cases hc
  ·cases hc
 ·simp only[Option.bind_eq_bind,Option.bind_eq_some_iff,Option.pure_def,Option.some.injEq]at hc
  obtain⟨x',_,y',_,rfl⟩:=hc
  simp[eG]at hq
 ·split at hc
  ·split at hc
   ·simp only[Option.map_eq_some_iff]at hc
    obtain⟨x',_,rfl⟩:=hc
    simp[eG]at hq
   ·cases hc
  ·cases hc
 ·rename_i ho
  split at hc
  ·rename_i m z hm
   simp only[Option.some.injEq]at hc
   subst hc
   simp only[eG,List.map_nil,bw,Option.some.injEq,Prod.mk.injEq]at hq
   obtain⟨rfl,rfl⟩:=hq
   exact .inr (.inl (Pf ho))
  ·cases hc
 ·rename_i ho
  split at hc
  ·rename_i m z x' k' hm hx hk
   simp only[Option.some.injEq]at hc
   subst hc
   obtain⟨rfl,h⟩:=Nb (id:=id) S E ho hm hx hk hq
   exact h
  ·cases hc
 ·split at hc
  ·simp only[Option.some.injEq]at hc
   subst hc
   simp[eG]at hq
  ·cases hc
 ·split at hc
  ·simp only[Option.some.injEq]at hc
   subst hc
   simp[eG]at hq
  ·cases hc
 ·simp only[Option.some.injEq]at hc
  subst hc
  simp[eG]at hq
 ·simp only[Option.some.injEq]at hc
  subst hc
  simp[eG]at hq
 ·simp at hc
end
end Go.Proofs.YtgoelphibofcmaaGreat.V

namespace Go.Proofs.YtgoelphibofcmaaGreat.V
open Go.RowKit
variable {P:Program} {w w':World} {D D':Nat->Prop} {ι ι':Names}
def j4 (ι:Names) (id:Id) (B:qO):Names:=fun i=>if i=id then some B else ι i
theorem dJ (ι:Names) (id:Id) (B:qO):j4 ι id B id=some B:=if_pos rfl
theorem eR {ι:Names} {id:Id} {B:qO} (h:ι id=none):∀i B',ι i=some B'->j4 ι id B i=some B':=fun i B' hi=>by
 have:i≠id:=by rintro rfl;rw[h]at hi;cases hi
 rw[j4,if_neg this];exact hi
theorem fN {ι:Names} {id i:Id} {B:qO} (h:i≠id):j4 ι id B i=ι i:=if_neg h
section
variable {g:Rows} {hs:Nat} {env:Env} {a:Act} {o:Oper} {id:Id} {v:AV}
theorem kM.frame {B:qO} {r:Row} (h:kM P w D ι B r) (hb:w'.heap[B.b]? =w.heap[B.b]?) (hr:∀a v,cu P w D ι a v->cu P w' D' ι' a v):kM P w' D' ι' B r:=
 ⟨h.sz,by obtain⟨c,T,h1,h2⟩:=h.vJ;exact⟨c,T,hb.trans h1,h2⟩,h.fits,h.len,h.flat,fun i j cs a hi hj=>by
  obtain⟨v,h1,h2⟩:=h.at_ i j cs a hi hj
  exact⟨v,(World.cell?_of_block (a:=⟨B.b,i*r.sz+j,none⟩) hb).trans h1,hr _ _ h2⟩⟩
theorem gu.frame {B:qO} {r:Row} (h:gu P w D ι B r) (hb:w'.heap[B.b]? =w.heap[B.b]?) (hr:∀a v,cu P w D ι a v->cu P w' D' ι' a v):gu P w' D' ι' B r:=
 ⟨h.sz,h.flat,fun hk=>(h.row hk).frame hb hr,fun m hm=>by
  obtain⟨h1,es,c,h2,h3,h5,h4⟩:=h.map m hm
  refine⟨h1,es,c,hb.trans h2,h3,h5,fun i cs hi=>?_⟩
  obtain⟨e,kv,vv,q1,q2,q3,q4,q5⟩:=h4 i cs hi
  exact⟨e,kv,vv,q1,q2,q3,hr _ _ q4,hr _ _ q5⟩,fun c hc=>by
  obtain⟨h1,buf,s,q,h2,h3,h4⟩:=h.chan c hc
  refine⟨h1,buf,s,q,hb.trans h2,h3,fun i cs hi=>?_⟩
  obtain⟨a,u,q1,q2,q3⟩:=h4 i cs hi
  exact⟨a,u,q1,q2,hr _ _ q3⟩⟩
theorem fR.kill (S:fR P hs D ι g w) (i:Id):fR P hs D ι (bY g i) w:=by
 refine⟨S.lo,S.dead,fun id r h=>?_,fun id jB r r' B B' h h' hw hB dr hb=>?_⟩
 ·unfold bY at h;split at h
  ·cases h
  ·exact S.row id r h
 ·unfold bY at h h'
  split at h
  ·cases h
  ·split at h'
   ·cases h'
   ·exact S.inj id jB r r' B B' h h' hw hB dr hb
theorem fR.sub {g':Rows} (S:fR P hs D ι g w) (h:∀id r,g' id=some r->g id=some r):fR P hs D ι g' w:=
 ⟨S.lo,S.dead,fun id r hr=>S.row id r (h id r hr),fun id jB r r' B B' h1 h2=>S.inj id jB r r' B B' (h _ _ h1) (h _ _ h2)⟩
theorem y4 {hid:List Nat} {n:Nat} {g:Rows}:∀id r,fV hid n g id=some r->g id=some r:=fun id r h=>by
 cases hid with
 |nil=>exact h
 |cons a l=>
  have e:fV (a::l) n g id=if (a::l).contains id.site=true/\id.bQ=n then none else g id:=rfl
  rw[e]at h
  by_cases hc:(a::l).contains id.site=true/\id.bQ=n
  ·rw[if_pos hc]at h;cases h
  ·rw[if_neg hc]at h;exact h
theorem fR.stay (S:fR P hs D ι g w) (hb:∀b,b<w.heap.size->w'.heap[b]? =w.heap[b]?) (hz:w.heap.size<=w'.heap.size) (hD:∀b,D b->D' b) (hD':∀b,D' b->b<w'.heap.size) (jT:∀b,D' b->D b∨w.heap.size<=b) (hι:∀id B,ι id=some B->ι' id=some B):fR P hs D' ι' g w':=by
 have hr:∀a v,cu P w D ι a v->cu P w' D' ι' a v:=fun a v h=>h.frame (fun b hd=>hb b (S.dead b hd)) hD hι
 have lt:∀{id r B},g id=some r->ι id=some B->B.b<w.heap.size:=fun {id r B} h hB=>by
  obtain⟨B',dr,R,_⟩:=S.row id r h
  rw[hB]at dr;injection dr with dr;subst dr
  exact R.lt
 refine⟨Nat.le_trans S.lo hz,hD',fun id r h=>?_,fun id jB r r' B B' h h' hw hB dr he=>?_⟩
 ·obtain⟨B,hB,R,h1,h2⟩:=S.row id r h
  exact⟨B,hι _ _ hB,R.frame (hb _ (lt h hB)) hr,h1,fun hw hd=>by
   rcases jT _ hd with hd|hd
   ·exact h2 hw hd
   ·have:=lt h hB;omega⟩
 ·obtain⟨C,hC,_⟩:=S.row id r h
  obtain⟨C',sR,_⟩:=S.row jB r' h'
  have e1:=hι _ _ hC
  have e2:=hι _ _ sR
  rw[hB]at e1;injection e1 with e1;subst e1
  rw[dr]at e2;injection e2 with e2;subst e2
  exact S.inj id jB r r' _ _ h h' hw hC sR he
theorem Step.stay (S:fR P hs D ι g w) (hb:∀b,b<w.heap.size->w'.heap[b]? =w.heap[b]?) (hz:w.heap.size<=w'.heap.size) (e1:w'.os=w.os) (e2:w'.tape=w.tape) (e3:w'.output=w.output) (hD:∀b,D b->D' b) (jT:∀b,D' b->D b∨w.heap.size<=b) (hι:∀id B,ι id=some B->ι' id=some B):Step hs D ι w D' ι' w':=
 ⟨⟨e1,e2,e3,hz,fun k hk=>hb k (Nat.lt_of_lt_of_le hk S.lo)⟩,fun b hd=>hb b (S.dead b hd),hD,hι,fun b h=>(jT b h).imp_right (Nat.le_trans S.lo)⟩
theorem fR.alloc (S:fR P hs D ι g w) {cells:Array Value} {T:TypeId} {r:Row} (hh:w'.heap=w.heap.push (.cells cells T (0,0))) (hn:ι id=none) (hw:r.w=true) (h1:r.rows.length*r.sz<=cells.size) (h2:∀cs∈r.rows,cs.length=r.sz) (h3:∀cs∈r.rows,∀a∈cs,a.cell=true)
  (h4:∀i j cs a,r.rows[i]? =some cs->cs[j]? =some a->∃x,cells[i*r.sz+j]? =some x/\cu P w D ι a x):fR P hs D (j4 ι id ⟨w.heap.size,r.sz,cells.size,none⟩) (bj g id r) w':=by
 have hb:∀b,b<w.heap.size->w'.heap[b]? =w.heap[b]? :=fun b dE=>by rw[hh,Array.getElem?_push,if_neg (by omega)]
 have hz:w.heap.size<=w'.heap.size:=by rw[hh];simp
 have S':=S.stay (D':=D) (ι':=j4 ι id ⟨w.heap.size,r.sz,cells.size,none⟩) hb hz (fun _ h=>h) (fun b hd=>Nat.lt_of_lt_of_le (S.dead b hd) hz) (fun _ h=>.inl h) (eR hn)
 have hr:∀a v,cu P w D ι a v->cu P w' D (j4 ι id ⟨w.heap.size,r.sz,cells.size,none⟩) a v:=fun a v h=>h.frame (fun b hd=>hb b (S.dead b hd)) (fun _ h=>h) (eR hn)
 have jT:w'.heap[w.heap.size]? =some (.cells cells T (0,0)):=by rw[hh];simp
 have gone:g id=none:=by
  cases hg:g id with
  |none=>rfl
  |some q=>
   obtain⟨B,hB,_⟩:=S.row id q hg
   rw[hn]at hB;cases hB
 have lt:∀{i q B},g i=some q->ι i=some B->B.b<w.heap.size:=fun {i q B} h hB=>by
  obtain⟨B',dr,R,_⟩:=S.row i q h
  rw[hB]at dr;injection dr with dr;subst dr
  exact R.lt
 refine⟨S'.lo,S'.dead,fun i q h=>?_,fun i i' q q' B B' h h' G5 hB dr he=>?_⟩
 ·unfold bj at h
  split at h
  ·rename_i e
   subst e
   injection h with h;subst h
   refine⟨_,dJ _ _ _,kM.obj ⟨rfl,⟨cells,T,jT,rfl⟩,h1,h2,h3,fun k j cs a hk hj=>?_⟩ rfl,fun _=>S.lo,fun _ hd=>?_⟩
   ·obtain⟨x,hx,hrx⟩:=h4 k j cs a hk hj
    exact⟨x,by simp[World.cell?,jT,hx],hr _ _ hrx⟩
   ·have:=S.dead _ hd;simp at this
  ·exact S'.row i q h
 ·unfold bj at h h'
  split at h
  ·rename_i e
   split at h'
   ·rename_i e';exact e.trans e'.symm
   ·exfalso
    rename_i e'
    subst e
    rw[dJ]at hB;injection hB with hB;subst hB
    rw[fN e']at dr
    have:=lt h' dr
    simp at he;omega
  ·rename_i e
   split at h'
   ·exfalso
    rename_i e'
    subst e'
    rw[dJ]at dr;injection dr with dr;subst dr
    rw[fN e]at hB
    have:=lt h hB
    simp at he;omega
   ·exact S'.inj i i' q q' B B' h h' G5 hB dr he
theorem fR.put (S:fR P hs D ι g w) {r r':Row} {B:qO} {cur cur':Array Value} {T:TypeId} (hid:g id=some r) (hw:r.w=true) (hB:ι id=some B) (hblk:w.heap[B.b]? =some (.cells cur T (0,0))) (eW:cur'.size=cur.size)
  (h0:r'.w=true) (h1:r'.sz=r.sz) (h2:r'.rows.length*r'.sz<=B.C) (h3:∀cs∈r'.rows,cs.length=r'.sz) (h4:∀cs∈r'.rows,∀a∈cs,a.cell=true)
  (h5:∀i j cs a,r'.rows[i]? =some cs->cs[j]? =some a->∃v,cur'[i*r.sz+j]? =some v/\cu P w D ι a v):fR P hs D ι (bj g id r') (w.setRow B.b cur')/\Step hs D ι w D ι (w.setRow B.b cur'):=by
 obtain⟨B0,zU,RO,jS,oe⟩:=S.row id r hid
 rw[hB]at zU;injection zU with zU;subst zU
 have vw:=RO.JU hblk
 have R:=RO.row vw
 have hd:∀b,D b->(w.setRow B.b cur').heap[b]? =w.heap[b]? :=fun b hb=>setRow_other w B.b b cur' (by rintro rfl;exact oe hw hb)
 have hr:∀a v,cu P w D ι a v->cu P (w.setRow B.b cur') D ι a v:=fun a v h=>h.frame hd (fun _ h=>h) (fun _ _ h=>h)
 have hC:cur.size=B.C:=by
  obtain⟨c,T',h1,h2⟩:=R.vJ
  rw[hblk]at h1;injection h1 with h1;injection h1 with h1 LH;subst h1;exact h2
 refine⟨⟨by simpa using S.lo,fun b hb=>by simpa using S.dead b hb,fun i q h=>?_,fun i i' q q' C C' h h' G5 hC sR he=>?_⟩,⟨⟨by simp,by simp,by simp,by simp,fun k hk=>setRow_other w B.b k cur' (by have:=jS hw;omega)⟩,hd,fun _ h=>h,fun _ _ h=>h,fun _ h=>.inl h⟩⟩
 ·unfold bj at h
  split at h
  ·rename_i e
   subst e
   injection h with h;subst h
   refine⟨B,hB,kM.obj ⟨by rw[h1];exact R.sz,⟨cur',T,setRow_heap w B.b cur cur' T _ hblk,by rw[eW];exact hC⟩,h2,h3,h4,fun k j cs a hk hj=>?_⟩ vw,fun _=>jS hw,fun _=>oe hw⟩
   obtain⟨v,hv,kS⟩:=h5 k j cs a hk hj
   exact⟨v,by rw[cell_setRow_same w B.b _ cur cur' T _ hblk,h1];exact hv,hr _ _ kS⟩
  ·rename_i e
   obtain⟨C,hC,RC,k1,k2⟩:=S.row i q h
   refine⟨C,hC,RC.frame (setRow_other w B.b C.b cur' (fun KD=>e ?_)) hr,k1,k2⟩
   exact(S.inj id i r q B C hid h hw hB hC KD.symm).symm
 ·unfold bj at h h'
  have get:∀j p,(if j=id then some r' else g j)=some p->∃p0,g j=some p0/\(p.w=true->p0.w=true):=fun j p hp=>by
   split at hp
   ·rename_i e;subst e;injection hp with hp;subst hp;exact⟨r,hid,fun _=>hw⟩
   ·exact⟨p,hp,fun h=>h⟩
  obtain⟨p,hp,NA⟩:=get _ _ h
  obtain⟨p',L9,_⟩:=get _ _ h'
  exact S.inj i i' p p' C C' hp L9 (NA G5) hC sR he
theorem fR.rename (S:fR P hs D ι g w) {i:Id} {r:Row} {B:qO} (hi:g i=some r) (hw:r.w=true) (hB:ι i=some B) (hn:ι id=none):fR P hs D (j4 ι id B) (bj (bY g i) id r) w:=by
 have S':=S.stay (w':=w) (D':=D) (ι':=j4 ι id B) (fun _ _=>rfl) (Nat.le_refl _) (fun _ h=>h) S.dead (fun _ h=>.inl h) (eR hn)
 have gI:i≠id:=by rintro rfl;rw[hn]at hB;cases hB
 obtain⟨B1,zh,R,k1,k2⟩:=S'.row i r hi
 rw[fN gI,hB]at zh;injection zh with zh;subst zh
 have get:∀j p,bj (bY g i) id r j=some p->(j=id/\p=r)∨(j≠id/\j≠i/\g j=some p):=fun j p hp=>by
  unfold bj bY at hp
  split at hp
  ·rename_i e;injection hp with hp;exact .inl ⟨e,hp.symm⟩
  ·rename_i e
   split at hp
   ·cases hp
   ·rename_i e';exact .inr ⟨e,e',hp⟩
 refine⟨S.lo,S.dead,fun j p h=>?_,fun j j' p p' C C' h h' NA hC sR he=>?_⟩
 ·rcases get j p h with⟨rfl,rfl⟩|⟨_,_,hp⟩
  ·exact⟨B,dJ _ _ _,R,k1,k2⟩
  ·exact S'.row j p hp
 ·rcases get j p h with⟨rfl,rfl⟩|⟨q1,q2,hp⟩
  ·rcases get j' p' h' with⟨rfl,rfl⟩|⟨q1',q2',L9⟩
   ·rfl
   ·exfalso
    rw[dJ]at hC;injection hC with hC;subst hC
    rw[fN q1']at sR
    exact q2' (S.inj i j' p p' B C' hi L9 hw hB sR he).symm
  ·rcases get j' p' h' with⟨rfl,rfl⟩|⟨q1',q2',L9⟩
   ·exfalso
    rw[dJ]at sR;injection sR with sR;subst sR
    rw[fN q1]at hC
    exact q2 (S.inj j i p p' C B hp hi NA hC hB he)
   ·rw[fN q1]at hC
    rw[fN q1']at sR
    exact S.inj j j' p p' C C' hp L9 NA hC sR he
def Bi (P:Program) (hs:Nat) (a:Act) (o:Oper) (w:World) (D:Nat->Prop) (ι:Names) (id:Id) (v:AV) (g':Rows):Prop:=
 ∃u w' ι',((execOp a.eval o).run P w=.ok (.value u) w'∨(execOp a.eval o).run P w=.ok .skip w'/\u=undef)/\Step hs D ι w D ι' w'/\fR P hs D ι' g' w'/\cu P w' D ι' v u/\∀i,i≠id->ι' i=ι i
theorem AJ {xs:List AV} {vs:Array Value} (h:e6 P w D ι xs vs) (hf:∀a∈xs,a.cell=true):∀v∈vs.toList,v.oneCell'=true:=by
 intro v hv
 obtain⟨j,hj,rfl⟩:=List.getElem_of_mem hv
 have IK:j<xs.length:=by rw[<-h.1];simpa using hj
 obtain⟨u,hu,hr⟩:=h.2 j _ (List.getElem?_eq_getElem IK)
 have hc:=hr.zG (hf _ (List.getElem_mem IK))
 have:vs.toList[j]=u:=by
  have:vs.toList[j]? =some u:=by simpa using hu
  rw[List.getElem?_eq_getElem hj]at this;injection this
 rw[this]
 cases u<;>simp_all [Value.oneCell']
theorem jw {i j n m:Nat} (h:i<n) (hj:j<m):i*m+j<n*m:=by
 have:(i+1)*m<=n*m:=Nat.mul_le_mul_right _ h
 rw[Nat.add_mul,Nat.one_mul]at this;omega
theorem kM.cur {B:qO} {r:Row} (R:kM P w D ι B r):∃cur T,w.heap[B.b]? =some (.cells cur T (0,0))/\cur.size=B.C/\∀i j cs a,r.rows[i]? =some cs->cs[j]? =some a->∃v,cur[i*r.sz+j]? =some v/\cu P w D ι a v:=by
 obtain⟨cur,T,h1,h2⟩:=R.vJ
 refine⟨cur,T,h1,h2,fun i j cs a hi hj=>?_⟩
 obtain⟨v,hv,hr⟩:=R.at_ i j cs a hi hj
 exact⟨v,by simpa[World.cell?,h1]using hv,hr⟩
theorem Jc {t:TypeId} {n:Nat} {x y:Operand} {x' y':O} {g':Rows} (S:fR P hs D ι g w) (E:bJ P w D ι env a) (ho:o.op=.store t x y) (hn:dK P t=some n) (hx:cO P x=some x') (hy:cO P y=some y')
  (hv:bI g n (cF env y') (cF env x')=some g'):Bi P hs a o w D ι id .undef g':=by
 have rx:=db E hx
 have ry:=db E hy
 unfold bI at hv
 split at hv
 ·rename_i i k off hp
  rw[hp]at rx
  simp only[Option.bind_eq_some_iff]at hv
  obtain⟨r,hg,cs,dn,hv⟩:=hv
  split at hv
  ·rename_i hc
   obtain⟨c1,c2,c3,c4⟩:=hc
   simp at hv;subst hv
   obtain⟨B,he,hB,hk⟩:=gZ rx
   obtain⟨B',dr,R,jS,oe⟩:=S.row i r hg
   rw[hB]at dr;injection dr with dr;subst dr
   replace R:=R.row hk
   obtain⟨cur,T,hblk,hC,ue⟩:=R.cur
   have hL:=pI ry c3
   have h1:=AJ hL (List.all_eq_true.1 c3)
   have O3:(a.eval y).cells.size=n:=by rw[hL.1,c2]
   have lq:=(List.getElem?_eq_some_iff.1 dn).1
   have hlen:=R.len cs (List.mem_of_getElem? dn)
   have hbound:k*r.sz+r.sz<=r.rows.length*r.sz:=by
    have:(k+1)*r.sz<=r.rows.length*r.sz:=Nat.mul_le_mul_right _ lq
    rwa [Nat.add_mul,Nat.one_mul]at this
   have hf:=R.fits
   have dv:=run_storeCells_at P B.b (k*B.sz+off) T (a.eval y).cells.toList 0 cur w hblk (by rw[R.sz];simp only[Array.length_toList];omega) h1
   simp only[Nat.add_zero,Array.length_toList]at dv
   have uj:=S.put (r':={r with rows:=r.rows.set k (cG cs off (cF env y').cells)}) hg c1 hB hblk (cur':=(cur.toList.take (k*B.sz+off)++(a.eval y).cells.toList++cur.toList.drop (k*B.sz+off+(a.eval y).cells.size)).toArray)
    (by rw[R.sz];simp;omega) c1 rfl (by simpa using R.fits) (fun c Rw=>by
     rcases List.mem_or_eq_of_mem_set Rw with h|rfl
     ·exact R.len c h
     ·simp[cG];omega) (fun c Rw b hb=>by
     rcases List.mem_or_eq_of_mem_set Rw with h|rfl
     ·exact R.flat c h b hb
     ·unfold cG at hb
      rcases List.mem_append.1 hb with hb|hb
      ·rcases List.mem_append.1 hb with hb|hb
       ·exact R.flat cs (List.mem_of_getElem? dn) b (List.mem_of_mem_take hb)
       ·exact List.all_eq_true.1 c3 b hb
      ·exact R.flat cs (List.mem_of_getElem? dn) b (List.mem_of_mem_drop hb)) (fun i2 j c b wP hj=>by
     rw[R.sz]
     simp only[List.getElem?_toArray]
     by_cases wQ:i2=k
     ·subst wQ
      rw[List.getElem?_set_self lq]at wP
      injection wP with wP;subst wP
      unfold cG at hj
      by_cases hjo:j<off
      ·rw[List.append_assoc,List.getElem?_append_left (by simp;omega),List.getElem?_take,if_pos hjo]at hj
       rw[List.append_assoc,List.getElem?_append_left (by simp;omega),List.getElem?_take,if_pos (by omega)]
       simpa using ue _ _ _ _ dn hj
      ·by_cases mW:j<off+n
       ·rw[List.append_assoc,List.getElem?_append_right (by simp;omega),List.getElem?_append_left (by simp;omega)]at hj
        rw[List.append_assoc,List.getElem?_append_right (by simp;omega),List.getElem?_append_left (by simp;omega)]
        simp only[List.length_take]at hj ⊢
        rw[show j-min off cs.length=j-off by omega]at hj
        rw[show i2*r.sz+j-min (i2*r.sz+off) cur.toList.length=j-off by simp;omega]
        simpa using hL.2 _ _ hj
       ·rw[List.getElem?_append_right (by simp;omega)]at hj
        rw[List.getElem?_append_right (by simp;omega)]
        simp only[List.length_append,List.length_take,List.getElem?_drop,Array.length_toList]at hj ⊢
        rw[show off+(cF env y').cells.length+(j-(min off cs.length+(cF env y').cells.length))=j by omega]at hj
        rw[show i2*r.sz+off+(a.eval y).cells.size+(i2*r.sz+j-(min (i2*r.sz+off) cur.size+(a.eval y).cells.size))=i2*r.sz+j by omega]
        simpa using ue _ _ _ _ dn hj
     ·rw[List.getElem?_set_ne (fun e=>wQ e.symm)]at wP
      have hi2l:=(List.getElem?_eq_some_iff.1 wP).1
      have gM:j<r.sz:=by rw[<-R.len c (List.mem_of_getElem? wP)];exact(List.getElem?_eq_some_iff.1 hj).1
      have:=ue _ _ _ _ wP hj
      rcases Nat.lt_or_gt_of_ne wQ with dE|Jm
      ·have h2:i2*r.sz+j<k*r.sz:=jw dE gM
       rw[List.append_assoc,List.getElem?_append_left (by simp;omega),List.getElem?_take,if_pos (by omega)]
       simpa using this
      ·have h2:k*r.sz+r.sz<=i2*r.sz:=by
        have:(k+1)*r.sz<=i2*r.sz:=Nat.mul_le_mul_right _ Jm
        rwa [Nat.add_mul,Nat.one_mul]at this
       rw[List.getElem?_append_right (by simp;omega)]
       simp only[List.length_append,List.length_take,List.getElem?_drop,Array.length_toList]
       rw[show k*r.sz+off+(a.eval y).cells.size+(i2*r.sz+j-(min (k*r.sz+off) cur.size+(a.eval y).cells.size))=i2*r.sz+j by omega]
       simpa using this)
   refine⟨undef,_,ι,.inr ⟨?_,rfl⟩,uj.2,uj.1,cu.undef,fun _ _=>rfl⟩
   simp only[execOp,ho,he,Instr.storeAt,Instr.sureAddr,storeVar,Sem.run_bind,Sem.run_pure,Result.andThen_ok,run_sizeOf hn,O3,ne_eq,not_true_eq_false,if_false,dv]
  ·simp at hv
 ·simp at hv
end
end Go.Proofs.YtgoelphibofcmaaGreat.V

namespace Go.Proofs.YtgoelphibofcmaaGreat.V
open Go.RowKit
variable {P:Program} {w w':World} {D D':Nat->Prop} {ι ι':Names}
section
variable {g:Rows} {hs:Nat} {env:Env} {a:Act} {o:Oper} {id:Id} {v:AV}
theorem qx (S:fR P hs D ι g w) {y:AV} {u:Value} {ys:List (List AV)} {sz:Nat} (hr:cu P w D ι y u) (hy:bl g y=some ys) (hl:∀c∈ys,c.length=sz) (hf:∀c∈ys,∀b∈c,b.cell=true):
  ∃A c,u=.slice A ys.length c/\(ys=[]∨∃b o,∃news:List Value,A=some ⟨b,o,none⟩/\news.length=ys.length*sz/\(∀j v,news[j]? =some v->w.cell? ⟨b,o+j,none⟩=some v)/\e6 P w D ι ys.flatten news.toArray/\∀v∈news,v.oneCell'=true):=by
 have fin:∀b o,ys≠[]->(∀i j cs x,ys[i]? =some cs->cs[j]? =some x->∃v,w.cell? ⟨b,o+(i*sz+j),none⟩=some v/\cu P w D ι x v)->
   ∃news:List Value,news.length=ys.length*sz/\(∀j v,news[j]? =some v->w.cell? ⟨b,o+j,none⟩=some v)/\e6 P w D ι ys.flatten news.toArray/\∀v∈news,v.oneCell'=true:=by
  intro b o _ h
  have hlen:=GC hl
  have at_:∀k,k<ys.length*sz->∃x,ys.flatten[k]? =some x/\∃v,w.cell? ⟨b,o+k,none⟩=some v/\cu P w D ι x v:=by
   intro k hk
   have jU:0<sz:=by
    rcases Nat.eq_zero_or_pos sz with h0|h0
    ·subst h0;simp at hk
    ·exact h0
   have hi:k / sz<ys.length:=Nat.div_lt_of_lt_mul (by rw[Nat.mul_comm];exact hk)
   have hj:k % sz<sz:=Nat.mod_lt _ jU
   have dn:=List.getElem?_eq_getElem hi
   have gM:k % sz<ys[k / sz].length:=by rw[hl _ (List.getElem_mem hi)];exact hj
   have hx:=List.getElem?_eq_getElem gM
   have e:k / sz*sz+k % sz=k:=by rw[Nat.mul_comm];exact Nat.div_add_mod _ _
   refine⟨_,by rw[<-flat_get hl dn hx,e],?_⟩
   obtain⟨v,hv,kS⟩:=h _ _ _ _ dn hx
   rw[e]at hv
   exact⟨v,hv,kS⟩
  let news:=(List.range (ys.length*sz)).map fun k=>(w.cell? ⟨b,o+k,none⟩).getD undef
  have hn:∀k,k<ys.length*sz->∀v,w.cell? ⟨b,o+k,none⟩=some v->news[k]? =some v:=fun k hk v hv=>by
   simp only[news,List.getElem?_map,List.getElem?_range hk,Option.map_some,hv,Option.getD_some]
  have hR:e6 P w D ι ys.flatten news.toArray:=⟨by simp[news,hlen],fun j x hx=>by
   have gM:=(List.getElem?_eq_some_iff.1 hx).1
   rw[hlen]at gM
   obtain⟨x',th,v,hv,kS⟩:=at_ j gM
   rw[hx]at th;injection th with th;subst th
   exact⟨v,by simpa using hn j gM v hv,kS⟩⟩
  refine⟨news,by simp[news],fun j v hj=>?_,hR,?_⟩
  ·have gM:j<ys.length*sz:=by have:=(List.getElem?_eq_some_iff.1 hj).1;simpa[news]using this
   obtain⟨x,_,v',mT,_⟩:=at_ j gM
   rw[hn j gM v' mT]at hj
   injection hj with hj
   rw[<-hj];exact mT
  ·have:=AJ hR (fun x hx=>by
    obtain⟨c,hc,Su⟩:=List.mem_flatten.1 hx
    exact hf c hc x Su)
   simpa using this
 unfold bl at hy
 split at hy
 ·simp at hy;subst hy
  exact⟨none,0,jN hr,.inl rfl⟩
 ·rename_i rows
  simp at hy;subst hy
  obtain⟨A,c,he,_,_,h3⟩:=uM hr
  refine⟨A,c,he,?_⟩
  rcases h3 with h3|⟨b,oo,sz',vs,rfl,hD,IM,_,hc,hi⟩
  ·exact .inl h3
  ·by_cases h0:rows=[]
   ·exact .inl h0
   ·have Aa:sz'=sz:=by
     cases rows with
     |nil=>exact(h0 rfl).elim
     |cons c r=>rw[<-IM c (by simp),hl c (by simp)]
    subst Aa
    obtain⟨news,q1,q2,q3,q4⟩:=fin b oo h0 (fun i j cs x dn hx=>⟨_,hc i j (List.getElem?_eq_some_iff.1 dn).1 (by rw[<-IM cs (List.mem_of_getElem? dn)];exact(List.getElem?_eq_some_iff.1 hx).1),.eD _ _ (hi i j cs x dn hx)⟩)
    exact .inr ⟨b,oo,news,rfl,q1,q2,q3,q4⟩
 ·rename_i i off len
  simp only[Option.bind_eq_some_iff]at hy
  obtain⟨r,hg,hy⟩:=hy
  split at hy
  ·rename_i hle
   simp at hy;subst hy
   obtain⟨oo,cap,B,he,hB,h1,h2,h3,h4,hk⟩:=iy hr
   obtain⟨B',dr,R,_,_⟩:=S.row i r hg
   rw[hB]at dr;injection dr with dr;subst dr
   replace R:=R.row hk
   have hlen:((r.rows.drop off).take len).length=len:=by simp;omega
   refine⟨some ⟨B.b,oo,none⟩,cap,by rw[hlen];exact he,?_⟩
   by_cases h0:(r.rows.drop off).take len=[]
   ·exact .inl h0
   ·have Aa:r.sz=sz:=by
     cases hq:(r.rows.drop off).take len with
     |nil=>exact(h0 hq).elim
     |cons c q=>
      have hm:c∈(r.rows.drop off).take len:=by rw[hq];simp
      rw[<-hl c hm,R.len c (List.mem_of_mem_drop (List.mem_of_mem_take hm))]
    have hlp:0<len:=by rw[<-hlen];exact List.length_pos_iff.2 h0
    have A7:oo=off*B.sz:=by rcases h2 with h2|h2<;>omega
    obtain⟨news,q1,q2,q3,q4⟩:=fin B.b oo h0 (fun i2 j cs x dn hx=>by
     rw[List.getElem?_take]at dn
     split at dn
     ·rw[List.getElem?_drop]at dn
      obtain⟨v,hv,kS⟩:=R.at_ _ _ _ _ dn hx
      refine⟨v,?_,kS⟩
      rw[A7,R.sz,<-Aa]
      rw[Nat.add_mul]at hv
      rw[<-Nat.add_assoc]
      exact hv
     ·simp at dn)
    exact .inr ⟨B.b,oo,news,rfl,q1,q2,q3,q4⟩
  ·simp at hy
 ·simp at hy
theorem nS {t ty e:TypeId} {i:TypeInfo} (ht:P.underlying t=some (.slice e)) (hi:P.info? e=some i) (A:Option Addr) (n c:Nat) (hn:n<=c) (B:Option Addr) (d:Nat):
  (Builtin.append_ #[t,t] ty #[.slice A n c,.slice B 0 d]).run P w=.ok (.slice A n c) w:=by
 have hf:(Builtin.firstCells i.size 0 (.slice B 0 d)).run P w=.ok #[] w:=by
  cases B<;>simp[Builtin.firstCells,loadCells,loadCellsFrom]
 cases A with
 |none=>simp[Builtin.append_,run_underlying ht,sizeOf,typeInfo,hi,Builtin.lenOf,hn,hf]
 |some A=>simp[Builtin.append_,run_underlying ht,sizeOf,typeInfo,hi,Builtin.lenOf,hn,hf,storeCells]
theorem we {t ty e T:TypeId} {i:TypeInfo} (ht:P.underlying t=some (.slice e)) (hi:P.info? e=some i) (b qC CA:Nat) (cur:Array Value) (hg:w.heap[b]? =some (.cells cur T (0,0)))
  (x:Addr) (m c:Nat) (news:List Value) (hl:news.length=m*i.size) (OL:∀j u,news[j]? =some u->w.cell? (x.add j)=some u) (h1:∀u∈news,u.oneCell'=true)
  (fU:qC+m<=CA) (rq:qC*i.size+news.length<=cur.size):
  (Builtin.append_ #[t,t] ty #[.slice (some ⟨b,0,none⟩) qC CA,.slice (some x) m c]).run P w=
   .ok (.slice (some ⟨b,0,none⟩) (qC+m) CA) (w.setRow b (cur.toList.take (qC*i.size)++news++cur.toList.drop (qC*i.size+news.length)).toArray):=by
 have hf:=run_firstCells_some (P:=P) w i.size m x m c news hl OL
 have dv:=run_storeCells_at P b (qC*i.size) T news 0 cur w hg (by simpa using rq) h1
 simp only[Nat.add_zero]at dv
 simp[Builtin.append_,run_underlying ht,sizeOf,typeInfo,hi,Builtin.lenOf,fU,hf,jP,dv]
theorem zT (w:World) (EZ xl:Nat) (e:TypeId) (h:EZ<=dB):EZ<=grownCap w EZ xl e/\grownCap w EZ xl e<=maxLen:=by
 unfold dB at h
 simp only[grownCap,Question.cut,maxLen]
 have:=Nat.mod_lt (w.tape w.drawn (.appendCap EZ xl e)) (show 0<2 ^ 63-EZ by omega)
 omega
theorem fD {x y:Operand} {t:TypeId} {u:Value} (ho:o.op=.call {callee:=.builtin .append,args:= #[x,y],argTypes:= #[t,t]}) (h:(Builtin.append_ #[t,t] o.type #[a.eval x,a.eval y]).run P w=.ok u w'):(execOp a.eval o).run P w=.ok (.value u) w':=by
 simp only[execOp,ho,resolve,Sem.run_bind,Sem.run_pure,Result.andThen_ok,invoke,builtin]
 simp only[List.map_toArray,List.map_cons,List.map_nil]
 rw[h];rfl
theorem AQ {T:TypeId} (S:fR P hs D ι g w) (cells:Array Value) (hn:ι id=none) (B:qO):Step hs D ι w D (j4 ι id B) (w.drew.alloc (.cells cells T)):=
 Step.stay S (fun k hk=>by show(w.heap.push _)[k]? = _;rw[Array.getElem?_push,if_neg (by omega)]) (by show _<=(w.heap.push _).size;simp) rfl rfl rfl (fun _ h=>h) (fun _ h=>.inl h) (eR hn)
theorem Gq {x y:Operand} {x' y':O} {t e:TypeId} {m:Nat} {z:List K} {i:TypeInfo} {ys:List (List AV)} {g':Rows} (S:fR P hs D ι g w) (E:bJ P w D ι env a) (hn:ι id=none) (ho:o.op=.call {callee:=.builtin .append,args:= #[x,y],argTypes:= #[t,t]})
  (ht:P.underlying t=some (.slice e)) (eW:dK P e=some (m+1)) (hz:jj P e=some z) (hi:P.info? e=some i) (hby:i.bytes<=32768) (hx:cO P x=some x') (hy:cO P y=some y') (Dw:bl g (cF env y')=some ys)
  (hv:aP g id (m+1) (cF env x') ys=some (v,g')):Bi P hs a o w D ι id v g':=by
 have rx:=db E hx
 have ry:=db E hy
 obtain⟨it,zv,pN,uo,NK,hm,Dx⟩:=jA hz
 rw[hi]at pN;injection pN with pN;subst pN
 have jf:i.size=m+1:=by simpa[dK,hi]using eW
 have fits:∀n,n<=dB->n*i.bytes<=140737488355328:=fun n h=>by
  unfold dB at h
  have:=Nat.mul_le_mul h hby
  omega
 have e63:∀n,n<=dB->(n:Int)<=9223372036854775807:=fun n h=>by unfold dB at h;omega
 have same:∀(w1:World) (cells:Array Value),w1=w.drew.alloc (.cells cells e)->w1.heap=w.heap.push (.cells cells e (0,0)):=fun w1 cells h=>by subst h;rfl
 have NV:∀l:List (List AV),(l.all fun c=>c.length==m+1&&c.all AV.cell)=true->(∀c∈l,c.length=m+1)/\∀c∈l,∀b∈c,b.cell=true:=fun l h=>by
  rw[List.all_eq_true]at h
  refine⟨fun c hc=>?_,fun c hc b hb=>?_⟩
  ·have:=h c hc;simp at this;exact this.1
  ·have:=h c hc;simp at this;exact this.2 b hb
 unfold aP at hv
 split at hv
 ·rename_i hb
  rw[hb]at rx
  have ex:=jN rx
  split at hv
  ·simp at hv
   obtain⟨rfl,rfl⟩:=hv
   obtain⟨A,c,ey,_⟩:=qx (sz:=m+1) S ry Dw (fun c h=>by cases h) (fun c h=>by cases h)
   refine⟨_,w,ι,.inl (fD ho (by rw[ex,ey];exact nS ht hi none 0 0 (Nat.le_refl _) A c)),Step.refl _ _ _ _,S,.eD _ _ .b4,fun _ _=>rfl⟩
  ·rename_i y0 yr
   split at hv
   ·rename_i hc
    simp only[Option.some.injEq,Prod.mk.injEq]at hv
    obtain⟨rfl,rfl⟩:=hv
    obtain⟨hl,hf⟩:=NV _ hc.2
    obtain⟨A,c,ey,h2⟩:=qx (sz:=m+1) S ry Dw hl hf
    rcases h2 with h2|⟨b,oo,news,rfl,q1,q2,q3,q4⟩
    ·cases h2
    have fI:=run_append_nil (P:=P) w t o.type e i zv ht hi uo ⟨b,oo,none⟩ (y0::yr).length c news (by rw[jf];exact q1) (fun j v hj=>by rw[jP];exact q2 j v hj) (by simp) (e63 _ hc.1) (by have:=fits _ hc.1;omega)
    obtain⟨g1,g2⟩:=zT w (y0::yr).length 0 e hc.1
    have dn:(news.toArray++Builtin.zeroCells zv.cells (grownCap w (y0::yr).length 0 e-(y0::yr).length)).size=grownCap w (y0::yr).length 0 e*(m+1):=by
     rw[Array.size_append,size_zeroCells,NK,jf]
     simp only[List.size_toArray,q1]
     rw[<-Nat.add_mul];congr 1;omega
    have S1:=S.alloc (w':=w.drew.alloc (.cells (news.toArray++Builtin.zeroCells zv.cells (grownCap w (y0::yr).length 0 e-(y0::yr).length)) e)) (r:=⟨true,m+1,y0::yr⟩) rfl hn rfl (by rw[dn];exact Nat.mul_le_mul_right _ g1) hl hf
     (fun k j cs b2 hk hj=>by
      obtain⟨u,hu,vY⟩:=q3.2 _ _ (flat_get hl hk hj)
      refine⟨u,?_,vY⟩
      have dE:=(Array.getElem?_eq_some_iff.1 hu).1
      dsimp only
      rw[Array.getElem?_append_left dE];exact hu)
    have dv:=AQ (T:=e) S (news.toArray++Builtin.zeroCells zv.cells (grownCap w (y0::yr).length 0 e-(y0::yr).length)) hn ⟨w.heap.size,m+1,(news.toArray++Builtin.zeroCells zv.cells (grownCap w (y0::yr).length 0 e-(y0::yr).length)).size,none⟩
    refine⟨_,_,_,.inl (fD ho (by rw[ex,ey];exact fI)),dv,S1,?_,fun _ h=>fN h⟩
    refine .own _ _ _ _ _ _ (dJ _ _ _) rfl g1 (.inr (by simp)) ?_ g2
    dsimp only;rw[dn];simp
   ·simp at hv
 ·rename_i i0 len hb
  rw[hb]at rx
  simp only[Option.bind_eq_some_iff]at hv
  obtain⟨r,hg,hv⟩:=hv
  split at hv
  ·rename_i hc
   obtain⟨c1,c2,c3,c4,c5⟩:=hc
   simp only[Option.some.injEq,Prod.mk.injEq]at hv
   obtain⟨rfl,rfl⟩:=hv
   obtain⟨hl,hf⟩:=NV _ c5
   obtain⟨A,c,ey,h2⟩:=qx (sz:=m+1) S ry Dw hl hf
   obtain⟨oo,cap,B,ex,hB,h1,A7,h3,h4,hk⟩:=iy rx
   obtain⟨B',dr,R,jS,oe⟩:=S.row _ _ hg
   rw[hB]at dr;injection dr with dr;subst dr
   replace R:=R.row hk
   have GG:B.sz=m+1:=R.sz.trans c2
   have yv:∀cs∈r.rows++ys,cs.length=m+1:=fun cs dn=>by
    rcases List.mem_append.1 dn with h|h
    ·rw[<-c2];exact R.len cs h
    ·exact hl cs h
   have Kw:∀cs∈r.rows++ys,∀b∈cs,b.cell=true:=fun cs dn=>by
    rcases List.mem_append.1 dn with h|h
    ·exact R.flat cs h
    ·exact hf cs h
   rcases h2 with rfl|⟨yb,yo,news,rfl,q1,q2,q3,q4⟩
   ·have EF:=S.rename hg c1 hB hn
    refine⟨_,w,j4 ι id B,.inl (fD ho (by rw[ex,ey];exact nS ht hi _ _ _ h1 A c)),⟨Below.refl _ _,fun _ _=>rfl,fun _ h=>h,eR hn,fun _ h=>.inl h⟩,?_,?_,fun _ h=>fN h⟩
    ·have:(⟨true,m+1,r.rows++[]⟩:Row)=r:=by cases r;simp_all
     rw[this];exact EF
    ·simp only[List.length_nil,Nat.add_zero]
     exact .own _ _ _ _ _ B (dJ _ _ _) hk h1 A7 h3 h4
   ·obtain⟨cur,T,hblk,hC,ue⟩:=R.cur
    by_cases fU:len+ys.length<=cap
    ·have Qu:ys≠[]->oo=0:=fun h=>by
      rcases A7 with A7|A7
      ·have:=List.length_pos_iff.2 h;omega
      ·simpa using A7
     by_cases hy0:ys=[]
     ·subst hy0
      have EF:=S.rename hg c1 hB hn
      refine⟨_,w,j4 ι id B,.inl (fD ho (by rw[ex,ey];exact nS ht hi _ _ _ h1 _ c)),⟨Below.refl _ _,fun _ _=>rfl,fun _ h=>h,eR hn,fun _ h=>.inl h⟩,?_,?_,fun _ h=>fN h⟩
      ·have:(⟨true,m+1,r.rows++[]⟩:Row)=r:=by cases r;simp_all
       rw[this];exact EF
      ·simp only[List.length_nil,Nat.add_zero]
       exact .own _ _ _ _ _ B (dJ _ _ _) hk h1 A7 h3 h4
     have ho0:=Qu hy0
     subst ho0
     have rq:len*i.size+news.length<=cur.size:=by
      rw[jf,q1,hC,<-Nat.add_mul]
      refine Nat.le_trans ?_ h3
      rw[GG,Nat.zero_add]
      exact Nat.mul_le_mul_right _ fU
     have fI:=we (ty:=o.type) ht hi B.b len cap cur hblk ⟨yb,yo,none⟩ ys.length c news (by rw[jf];exact q1) (fun j v hj=>by rw[jP];exact q2 j v hj) q4 fU rq
     have nH:cur.toList.length=cur.size:=Array.length_toList
     simp only[jf]at fI rq
     obtain⟨P1,P2⟩:=S.put (r':=⟨true,m+1,r.rows++ys⟩) hg c1 hB hblk (cur':=(cur.toList.take (len*(m+1))++news++cur.toList.drop (len*(m+1)+news.length)).toArray) (by simp only[List.size_toArray,List.length_append,List.length_take,List.length_drop,nH];omega) rfl c2.symm
      (by dsimp only;rw[List.length_append,<-c3,<-GG];refine Nat.le_trans (Nat.mul_le_mul_right _ fU) (Nat.le_trans (by simp) h3)) yv Kw (fun k j cs b2 hk hj=>by
       simp only[List.getElem?_toArray]
       have gM:j<m+1:=by rw[<-yv cs (List.mem_of_getElem? hk)];exact(List.getElem?_eq_some_iff.1 hj).1
       rw[c2]
       by_cases lq:k<r.rows.length
       ·rw[List.getElem?_append_left lq]at hk
        have h2:k*(m+1)+j<len*(m+1):=jw (by omega) gM
        rw[List.append_assoc,List.getElem?_append_left (by simp only[List.length_take,nH];omega),List.getElem?_take,if_pos h2]
        have:=ue k j cs b2 hk hj
        rw[c2]at this;simpa using this
       ·rw[List.getElem?_append_right (by omega)]at hk
        have ug:=(List.getElem?_eq_some_iff.1 hk).1
        have pq:len*(m+1)<=k*(m+1):=Nat.mul_le_mul_right _ (by omega)
        have pw:k*(m+1)+j-len*(m+1)=(k-r.rows.length)*(m+1)+j:=by
         rw[<-c3,Nat.sub_mul];omega
        obtain⟨u,hu,vY⟩:=q3.2 _ _ (flat_get hl hk hj)
        refine⟨u,?_,vY⟩
        have Du:news[(k-r.rows.length)*(m+1)+j]? =some u:=by simpa using hu
        have dE:=(List.getElem?_eq_some_iff.1 Du).1
        rw[List.append_assoc,List.getElem?_append_right (by simp only[List.length_take,nH];omega),List.getElem?_append_left (by simp only[List.length_take,nH];omega)]
        rw[<-Du]
        congr 1
        simp only[List.length_take,nH]
        omega)
     have fc:bj (bY (bj g i0 ⟨true,m+1,r.rows++ys⟩) i0) id ⟨true,m+1,r.rows++ys⟩=bj (bY g i0) id ⟨true,m+1,r.rows++ys⟩:=by
      funext q;simp only[bj,bY]
      by_cases h:q=id<;>by_cases h':q=i0<;>simp[h,h']
     have EF:=P1.rename (i:=i0) (id:=id) (r:=⟨true,m+1,r.rows++ys⟩) (by simp[bj]) rfl hB hn
     rw[fc]at EF
     refine⟨_,_,_,.inl (fD ho (by rw[ex,ey];exact fI)),P2.trans ⟨Below.refl _ _,fun _ _=>rfl,fun _ h=>h,eR hn,fun _ h=>.inl h⟩,EF,?_,fun _ h=>fN h⟩
     exact .own _ _ _ _ _ B (dJ _ _ _) hk fU (.inr (by simp)) h3 h4
    ·
     have holds:∃sV:List Value,sV.length=len*(m+1)/\(∀j v,sV[j]? =some v->w.cell? ⟨B.b,oo+j,none⟩=some v)/\e6 P w D ι r.rows.flatten sV.toArray:=by
      obtain⟨A2,c2',e2,h2⟩:=qx (sz:=m+1) (u:=.slice (some ⟨B.b,oo,none⟩) len cap) S (.own i0 0 len oo cap B hB hk h1 A7 h3 h4) (ys:=r.rows) (by simp[bl,hg,c3]) (fun cs h=>by rw[<-c2];exact R.len cs h) R.flat
      rcases h2 with h2|⟨b2,o2,sV,rfl,p1,p2,p3,_⟩
      ·refine⟨[],by simp[c3,h2],fun j v h=>by simp at h,by rw[h2];exact⟨rfl,fun j a h=>by simp at h⟩⟩
      ·injection e2 with e2 _ _
       injection e2 with e2
       injection e2 with e21 e22 _
       subst e21;subst e22
       exact⟨sV,by rw[p1,c3],p2,p3⟩
     obtain⟨sV,p1,p2,p3⟩:=holds
     have fI:=run_append_grow (P:=P) w t o.type e i zv ht hi uo ⟨B.b,oo,none⟩ len cap sV (by rw[jf];exact p1) (fun j v hj=>by rw[jP];exact p2 j v hj) ⟨yb,yo,none⟩ ys.length c news (by rw[jf];exact q1) (fun j v hj=>by rw[jP];exact q2 j v hj) (by omega) (e63 _ c4) (growslice_fits (by omega) (fits _ c4))
     obtain⟨g1,g2⟩:=zT w (len+ys.length) cap e c4
     have dn:(sV.toArray++news.toArray++Builtin.zeroCells zv.cells (grownCap w (len+ys.length) cap e-(len+ys.length))).size=grownCap w (len+ys.length) cap e*(m+1):=by
      rw[Array.size_append,Array.size_append,size_zeroCells,NK,jf]
      simp only[List.size_toArray,q1,p1]
      rw[<-Nat.add_mul,<-Nat.add_mul];congr 1;omega
     have S1:=(S.kill i0).alloc (id:=id) (w':=w.drew.alloc (.cells (sV.toArray++news.toArray++Builtin.zeroCells zv.cells (grownCap w (len+ys.length) cap e-(len+ys.length))) e)) (r:=⟨true,m+1,r.rows++ys⟩) rfl hn rfl (by dsimp only;rw[dn,List.length_append,<-c3];exact Nat.mul_le_mul_right _ g1) yv Kw
      (fun k j cs b2 hk hj=>by
       have Jl:=flat_get yv hk hj
       rw[List.flatten_append]at Jl
       have Js:sV.length=r.rows.flatten.length:=by have:=p3.1;simpa using this
       dsimp only
       by_cases dE:k*(m+1)+j<r.rows.flatten.length
       ·rw[List.getElem?_append_left dE]at Jl
        obtain⟨u,hu,vY⟩:=p3.2 _ _ Jl
        refine⟨u,?_,vY⟩
        rw[Array.getElem?_append_left (by simp;omega),Array.getElem?_append_left (by simp;omega)];exact hu
       ·rw[List.getElem?_append_right (by omega)]at Jl
        obtain⟨u,hu,vY⟩:=q3.2 _ _ Jl
        refine⟨u,?_,vY⟩
        have z6:=(Array.getElem?_eq_some_iff.1 hu).1
        simp only[List.size_toArray]at z6
        rw[Array.getElem?_append_left (by simp;omega),Array.getElem?_append_right (by simp;omega)]
        simp only[List.size_toArray,Js];exact hu)
     have dv:=AQ (T:=e) S (sV.toArray++news.toArray++Builtin.zeroCells zv.cells (grownCap w (len+ys.length) cap e-(len+ys.length))) hn ⟨w.heap.size,m+1,(sV.toArray++news.toArray++Builtin.zeroCells zv.cells (grownCap w (len+ys.length) cap e-(len+ys.length))).size,none⟩
     refine⟨_,_,_,.inl (fD ho (by rw[ex,ey];exact fI)),dv,S1,?_,fun _ h=>fN h⟩
     refine .own _ _ _ _ _ _ (dJ _ _ _) rfl g1 (.inr (by simp)) ?_ g2
     dsimp only;rw[dn];simp
  ·simp at hv
 ·simp at hv
theorem kq {x:Operand} {t:TypeId} {u:Value} (ho:o.op=.call {callee:=.builtin .clear,args:= #[x],argTypes:= #[t]}) (h:(Builtin.clear_ #[t] o.type #[a.eval x]).run P w=.ok u w'):(execOp a.eval o).run P w=.ok (.value u) w':=by
 simp only[execOp,ho,resolve,Sem.run_bind,Sem.run_pure,Result.andThen_ok,invoke,builtin]
 simp only[List.map_toArray,List.map_cons,List.map_nil]
 rw[h];rfl
theorem Jb {x:Operand} {x':O} {t e:TypeId} {m:Nat} {z:List K} {g':Rows} (S:fR P hs D ι g w) (E:bJ P w D ι env a) (ho:o.op=.call {callee:=.builtin .clear,args:= #[x],argTypes:= #[t]})
  (ht:P.underlying t=some (.slice e)) (eW:dK P e=some (m+1)) (hz:jj P e=some z) (hx:cO P x=some x') (hv:bE g z (cF env x')=some g'):Bi P hs a o w D ι id .undef g':=by
 have rx:=db E hx
 obtain⟨it,zv,hi,uo,NK,hm,Dx⟩:=jA hz
 have jf:it.size=m+1:=by simpa[dK,hi]using eW
 unfold bE at hv
 split at hv
 ·rename_i hb
  rw[hb]at rx
  simp at hv;subst hv
  refine⟨undef,w,ι,.inl (kq ho (by rw[jN rx];simp only[Builtin.clear_,Sem.run_bind];simp[run_underlying ht,undef])),Step.refl _ _ _ _,S,cu.undef,fun _ _=>rfl⟩
 ·rename_i i off len hb
  rw[hb]at rx
  simp only[Option.bind_eq_some_iff]at hv
  obtain⟨r,hg,hv⟩:=hv
  split at hv
  ·rename_i hc
   obtain⟨c1,c2,c3⟩:=hc
   simp only[Option.some.injEq]at hv;subst hv
   obtain⟨oo,cap,B,ex,hB,h1,h2,h3,h4,hk⟩:=iy rx
   obtain⟨B',dr,R,jS,oe⟩:=S.row _ _ hg
   rw[hB]at dr;injection dr with dr;subst dr
   replace R:=R.row hk
   obtain⟨cur,T,hblk,hC,ue⟩:=R.cur
   by_cases h0:len=0
   ·subst h0
    have e1:({r with rows:=r.rows.take off++List.replicate 0 (z.map K.av)++r.rows.drop (off+0)}:Row)=r:=by cases r;simp
    rw[e1]
    have e2:bj g i r=g:=by
     funext q;unfold bj;split
     ·rename_i h;rw[h,hg]
     ·rfl
    rw[e2]
    refine⟨undef,w,ι,.inl (kq ho (by rw[ex];simp only[Builtin.clear_,Sem.run_bind];simp[run_underlying ht,undef])),Step.refl _ _ _ _,S,cu.undef,fun _ _=>rfl⟩
   ·have Bd:oo=off*B.sz:=by rcases h2 with h2|h2<;>omega
    have GG:B.sz=m+1:=by rw[R.sz,c2,Dx,jf]
    have wU:r.sz=m+1:=by rw[<-R.sz,GG]
    have O9:zv.cells.size=m+1:=by rw[NK,jf]
    have wZ:(Builtin.zeroCells zv.cells len).toList.length=len*(m+1):=by rw[Array.length_toList,size_zeroCells,O9]
    have O8:∀k,k<len*(m+1)->∃c,z[k % z.length]? =some c/\(Builtin.zeroCells zv.cells len).toList[k]? =some c.val:=fun k hk=>by
     obtain⟨c,oR,Ez⟩:=nZ (n:=len*zv.cells.size) hm (by rw[Dx,jf];omega) k (by rw[O9];exact hk)
     exact⟨c,oR,by rw[Array.getElem?_toList];exact Ez⟩
    have hbound:(off+len)*(m+1)<=r.rows.length*(m+1):=Nat.mul_le_mul_right _ c3
    have zY:=R.fits
    rw[wU]at zY
    have RE:(off+len)*(m+1)=off*(m+1)+len*(m+1):=Nat.add_mul _ _ _
    have dv:=run_storeCells_at P B.b oo T (Builtin.zeroCells zv.cells len).toList 0 cur w hblk (by rw[wZ,hC,Bd,GG];omega) (by
     intro v hv
     obtain⟨k,hk,rfl⟩:=List.getElem_of_mem hv
     obtain⟨c,_,Ez⟩:=O8 k (by rw[<-wZ];exact hk)
     rw[List.getElem?_eq_getElem hk]at Ez
     injection Ez with Ez
     rw[Ez];cases c<;>rfl)
    simp only[Nat.add_zero]at dv
    have nH:cur.toList.length=cur.size:=Array.length_toList
    obtain⟨P1,P2⟩:=S.put (r':={r with rows:=r.rows.take off++List.replicate len (z.map K.av)++r.rows.drop (off+len)}) hg c1 hB hblk (cur':=(cur.toList.take oo++(Builtin.zeroCells zv.cells len).toList++cur.toList.drop (oo+(Builtin.zeroCells zv.cells len).toList.length)).toArray)
     (by simp only[List.size_toArray,List.length_append,List.length_take,List.length_drop,nH,wZ];rw[Bd,GG];omega) c1 rfl (by
      have:(r.rows.take off++List.replicate len (z.map K.av)++r.rows.drop (off+len)).length=r.rows.length:=by simp;omega
      dsimp only;rw[this];exact R.fits) (fun cs dn=>by
      rcases List.mem_append.1 dn with h|h
      ·rcases List.mem_append.1 h with h|h
       ·exact R.len cs (List.mem_of_mem_take h)
       ·rw[List.eq_of_mem_replicate h];simp[c2]
      ·exact R.len cs (List.mem_of_mem_drop h)) (fun cs dn b hb=>by
      rcases List.mem_append.1 dn with h|h
      ·rcases List.mem_append.1 h with h|h
       ·exact R.flat cs (List.mem_of_mem_take h) b hb
       ·rw[List.eq_of_mem_replicate h]at hb
        obtain⟨c,_,rfl⟩:=List.mem_map.1 hb;exact c.lX
      ·exact R.flat cs (List.mem_of_mem_drop h) b hb) (fun k j cs b hk hj=>by
      simp only[List.getElem?_toArray]
      rw[wU]
      rw[Bd,GG,wZ]
      by_cases vz:k<off
      ·rw[List.append_assoc,List.getElem?_append_left (by simp;omega),List.getElem?_take,if_pos vz]at hk
       have gM:j<m+1:=by rw[<-wU,<-R.len cs (List.mem_of_getElem? hk)];exact(List.getElem?_eq_some_iff.1 hj).1
       have h2:=jw vz gM
       rw[List.append_assoc,List.getElem?_append_left (by simp only[List.length_take,nH];omega),List.getElem?_take,if_pos h2]
       have:=ue k j cs b hk hj
       rw[wU]at this;simpa using this
      ·by_cases ug:k<off+len
       ·rw[List.append_assoc,List.getElem?_append_right (by simp;omega),List.getElem?_append_left (by simp;omega)]at hk
        have gr:=List.eq_of_mem_replicate (List.mem_of_getElem? hk)
        subst gr
        simp only[List.getElem?_map,Option.map_eq_some_iff]at hj
        obtain⟨q,hq,rfl⟩:=hj
        have gM:=(List.getElem?_eq_some_iff.1 hq).1
        rw[Dx,jf]at gM
        have pq:off*(m+1)<=k*(m+1):=Nat.mul_le_mul_right _ (by omega)
        have pw:k*(m+1)+j-off*(m+1)=(k-off)*(m+1)+j:=by rw[Nat.sub_mul];omega
        have z6:(k-off)*(m+1)+j<len*(m+1):=jw (by omega) gM
        rw[List.append_assoc,List.getElem?_append_right (by simp only[List.length_take,nH];omega),List.getElem?_append_left (by simp only[List.length_take,nH,wZ];omega)]
        obtain⟨c,oR,Ez⟩:=O8 _ z6
        rw[Dx,jf,Nat.mul_comm (k-off),Nat.mul_add_mod,Nat.mod_eq_of_lt gM,hq]at oR
        injection oR with oR;subst oR
        refine⟨q.val,?_,uK q⟩
        rw[<-Ez]
        congr 1
        simp only[List.length_take,nH];omega
       ·rw[List.getElem?_append_right (by simp;omega)]at hk
        simp only[List.length_append,List.length_take,List.length_replicate,List.getElem?_drop]at hk
        rw[show off+len+(k-(min off r.rows.length+len))=k by omega]at hk
        have lq:=(List.getElem?_eq_some_iff.1 hk).1
        have pq:(off+len)*(m+1)<=k*(m+1):=Nat.mul_le_mul_right _ (by omega)
        rw[List.getElem?_append_right (by simp only[List.length_append,List.length_take,nH,wZ];omega)]
        simp only[List.length_append,List.length_take,nH,wZ,List.getElem?_drop]
        rw[show off*(m+1)+len*(m+1)+(k*(m+1)+j-(min (off*(m+1)) cur.size+len*(m+1)))=k*(m+1)+j by omega]
        have:=ue k j cs b hk hj
        rw[wU]at this;simpa using this)
    refine⟨undef,_,ι,.inl (kq ho ?_),P2,P1,cu.undef,fun _ _=>rfl⟩
    rw[ex]
    cases len with
    |zero=>exact(h0 rfl).elim
    |succ len=>
     simp only[Builtin.clear_,Sem.run_bind]
     simp[run_underlying ht,zeroValue,typeInfo,hi,uo,dv,undef]
  ·simp at hv
 ·simp at hv
theorem Fj {dT sT ty e:TypeId} {it:TypeInfo} (hu:P.underlying dT=some (.slice e)) (hi:P.info? e=some it) (A B:Option Addr) (qC CA Ek Lu:Nat) (h0:Nat.min qC Ek=0):
  (Builtin.copy_ #[dT,sT] ty #[.slice A Ek Lu,.slice B qC CA]).run P w=.ok (goInt 0) w:=by
 cases A<;>cases B<;>simp[Builtin.copy_,run_underlying hu,Builtin.lenOf,Builtin.firstCells,sizeOf,typeInfo,hi,h0,storeCells,loadCells,loadCellsFrom]
theorem Fk {dT sT ty e:TypeId} {it:TypeInfo} (hu:P.underlying dT=some (.slice e)) (hi:P.info? e=some it) (A B:Addr) (qC CA Ek Lu:Nat) (cs:List Value) (hn:cs.length=Nat.min qC Ek*it.size) (hl:(loadCells B cs.length).run P w=.ok cs.toArray w) (hs:(storeCells A cs).run P w=.ok () w'):
  (Builtin.copy_ #[dT,sT] ty #[.slice (some A) Ek Lu,.slice (some B) qC CA]).run P w=.ok (goInt (Nat.min qC Ek)) w':=by
 simp[Builtin.copy_,run_underlying hu,Builtin.lenOf,Builtin.firstCells,sizeOf,typeInfo,hi,<-hn,hl,hs]
theorem oX {x y:Operand} {t t2:TypeId} {u:Value} (ho:o.op=.call {callee:=.builtin .copy,args:= #[x,y],argTypes:= #[t,t2]}) (h:(Builtin.copy_ #[t,t2] o.type #[a.eval x,a.eval y]).run P w=.ok u w'):(execOp a.eval o).run P w=.ok (.value u) w':=by
 simp only[execOp,ho,resolve,Sem.run_bind,Sem.run_pure,Result.andThen_ok,invoke,builtin]
 simp only[List.map_toArray,List.map_cons,List.map_nil]
 rw[h];rfl
theorem Lv {x y:Operand} {x' y':O} {t t2 e:TypeId} {m:Nat} {ys:List (List AV)} {v:AV} {g':Rows} (S:fR P hs D ι g w) (E:bJ P w D ι env a) (ho:o.op=.call {callee:=.builtin .copy,args:= #[x,y],argTypes:= #[t,t2]})
  (ht:P.underlying t=some (.slice e)) (eW:dK P e=some (m+1)) (hx:cO P x=some x') (hy:cO P y=some y') (Dw:bl g (cF env y')=some ys) (hv:DS g (m+1) (cF env x') ys=some (v,g')):Bi P hs a o w D ι id v g':=by
 have rx:=db E hx
 have ry:=db E hy
 obtain⟨it,hi,jf⟩:∃it,P.info? e=some it/\it.size=m+1:=by
  cases hq:P.info? e with
  |none=>simp[dK,hq]at eW
  |some it=>exact⟨it,rfl,by simpa[dK,hq]using eW⟩
 unfold DS at hv
 split at hv
 ·rename_i i off len hb
  rw[hb]at rx
  simp only[Option.bind_eq_some_iff]at hv
  obtain⟨r,hg,hv⟩:=hv
  split at hv
  ·rename_i hc
   obtain⟨c1,c2,c3,c4⟩:=hc
   simp only[Option.some.injEq,Prod.mk.injEq]at hv
   obtain⟨rfl,rfl⟩:=hv
   rw[List.all_eq_true]at c4
   have hl:∀c∈ys,c.length=m+1:=fun c hc=>by have:=c4 c hc;simp at this;exact this.1
   have hf:∀c∈ys,∀b∈c,b.cell=true:=fun c hc b hb=>by have:=c4 c hc;simp at this;exact this.2 b hb
   obtain⟨oo,cap,B,ex,hB,h1,h2,h3,h4,hk⟩:=iy rx
   obtain⟨B',dr,R,jS,oe⟩:=S.row _ _ hg
   rw[hB]at dr;injection dr with dr;subst dr
   replace R:=R.row hk
   obtain⟨cur,T,hblk,hC,ue⟩:=R.cur
   obtain⟨A,sc,hu,hA⟩:=qx S ry Dw hl hf
   by_cases h0:min ys.length len=0
   ·rw[h0]
    have e1:({r with rows:=r.rows.take off++ys.take 0++r.rows.drop (off+0)}:Row)=r:=by cases r;simp
    rw[e1]
    have e2:bj g i r=g:=by
     funext q;unfold bj;split
     ·rename_i h;rw[h,hg]
     ·rfl
    rw[e2]
    refine⟨goInt 0,w,ι,.inl (oX ho (by rw[ex,hu];exact Fj ht hi _ _ _ _ _ _ h0)),Step.refl _ _ _ _,S,.eD _ _ (.int _ _),fun _ _=>rfl⟩
   ·rcases hA with rfl|⟨b,o2,news,rfl,vV,hsrc,hR,h1c⟩
    ·simp at h0
    have OI:Nat.min ys.length len=min ys.length len:=rfl
    have hky:min ys.length len<=ys.length:=Nat.min_le_left _ _
    have lq:min ys.length len<=len:=Nat.min_le_right _ _
    generalize hkk:min ys.length len=kk at *
    have hlen0:len≠0:=by omega
    have Bd:oo=off*B.sz:=by rcases h2 with h2|h2<;>omega
    have GG:B.sz=m+1:=by rw[R.sz,c2]
    have wU:r.sz=m+1:=c2
    have Ql:kk*(m+1)<=ys.length*(m+1):=Nat.mul_le_mul_right _ hky
    have wZ:(news.take (kk*(m+1))).length=kk*(m+1):=by rw[List.length_take,vV];omega
    have hbound:(off+kk)*(m+1)<=r.rows.length*(m+1):=Nat.mul_le_mul_right _ (by omega)
    have zY:=R.fits
    rw[wU]at zY
    have RE:(off+kk)*(m+1)=off*(m+1)+kk*(m+1):=Nat.add_mul _ _ _
    have dv:=run_storeCells_at P B.b oo T (news.take (kk*(m+1))) 0 cur w hblk (by rw[wZ,hC,Bd,GG];omega) (fun v hv=>h1c v (List.mem_of_mem_take hv))
    have Qo:=run_loadCells_list (P:=P) w ⟨b,o2,none⟩ (news.take (kk*(m+1))) (fun j v hj=>by
     rw[List.getElem?_take]at hj
     split at hj
     ·have:=hsrc j v hj
      cases j with
      |zero=>simpa[Addr.add]using this
      |succ j=>simpa[Addr.add]using this
     ·cases hj)
    simp only[Nat.add_zero]at dv
    have nH:cur.toList.length=cur.size:=Array.length_toList
    have Mj:(ys.take kk).length=kk:=by rw[List.length_take];omega
    obtain⟨P1,P2⟩:=S.put (r':={r with rows:=r.rows.take off++ys.take kk++r.rows.drop (off+kk)}) hg c1 hB hblk (cur':=(cur.toList.take oo++news.take (kk*(m+1))++cur.toList.drop (oo+(news.take (kk*(m+1))).length)).toArray)
     (by simp only[List.size_toArray,List.length_append,List.length_drop,nH,wZ];rw[List.length_take,nH,Bd,GG];omega) c1 rfl (by
      have:(r.rows.take off++ys.take kk++r.rows.drop (off+kk)).length=r.rows.length:=by simp;omega
      dsimp only;rw[this];exact R.fits) (fun cs dn=>by
      rcases List.mem_append.1 dn with h|h
      ·rcases List.mem_append.1 h with h|h
       ·exact R.len cs (List.mem_of_mem_take h)
       ·rw[hl cs (List.mem_of_mem_take h)];exact c2.symm
      ·exact R.len cs (List.mem_of_mem_drop h)) (fun cs dn b hb=>by
      rcases List.mem_append.1 dn with h|h
      ·rcases List.mem_append.1 h with h|h
       ·exact R.flat cs (List.mem_of_mem_take h) b hb
       ·exact hf cs (List.mem_of_mem_take h) b hb
      ·exact R.flat cs (List.mem_of_mem_drop h) b hb) (fun k j cs b hk hj=>by
      simp only[List.getElem?_toArray]
      rw[wU]
      rw[Bd,GG,wZ]
      by_cases vz:k<off
      ·rw[List.append_assoc,List.getElem?_append_left (by simp;omega),List.getElem?_take,if_pos vz]at hk
       have gM:j<m+1:=by rw[<-wU,<-R.len cs (List.mem_of_getElem? hk)];exact(List.getElem?_eq_some_iff.1 hj).1
       have h2:=jw vz gM
       rw[List.append_assoc,List.getElem?_append_left (by simp only[List.length_take,nH];omega),List.getElem?_take,if_pos h2]
       have:=ue k j cs b hk hj
       rw[wU]at this;simpa using this
      ·by_cases ug:k<off+kk
       ·rw[List.append_assoc,List.getElem?_append_right (by simp;omega),List.getElem?_append_left (by simp;omega)]at hk
        simp only[List.length_take]at hk
        rw[show k-min off r.rows.length=k-off by omega,List.getElem?_take,if_pos (by omega)]at hk
        have gM:j<m+1:=by rw[<-hl cs (List.mem_of_getElem? hk)];exact(List.getElem?_eq_some_iff.1 hj).1
        have pq:off*(m+1)<=k*(m+1):=Nat.mul_le_mul_right _ (by omega)
        have pw:k*(m+1)+j-off*(m+1)=(k-off)*(m+1)+j:=by rw[Nat.sub_mul];omega
        have z6:(k-off)*(m+1)+j<kk*(m+1):=jw (by omega) gM
        rw[List.append_assoc,List.getElem?_append_right (by simp only[List.length_take,nH];omega),List.getElem?_append_left (by rw[wZ];simp only[List.length_take,nH];omega)]
        obtain⟨u,OZ,hu2⟩:=hR.2 ((k-off)*(m+1)+j) b (flat_get hl hk hj)
        refine⟨u,?_,hu2⟩
        rw[List.getElem?_take]
        simp only[List.length_take,nH]
        rw[show k*(m+1)+j-min (off*(m+1)) cur.size=(k-off)*(m+1)+j by omega,if_pos z6]
        simpa using OZ
       ·rw[List.getElem?_append_right (by simp;omega)]at hk
        simp only[List.length_append,List.length_take,List.getElem?_drop]at hk
        rw[show off+kk+(k-(min off r.rows.length+min kk ys.length))=k by omega]at hk
        have lq:=(List.getElem?_eq_some_iff.1 hk).1
        have pq:(off+kk)*(m+1)<=k*(m+1):=Nat.mul_le_mul_right _ (by omega)
        rw[List.getElem?_append_right (by rw[List.length_append,wZ];simp only[List.length_take,nH];omega)]
        rw[List.getElem?_drop,List.length_append,wZ]
        simp only[List.length_take,nH]
        rw[show off*(m+1)+kk*(m+1)+(k*(m+1)+j-(min (off*(m+1)) cur.size+kk*(m+1)))=k*(m+1)+j by omega]
        have:=ue k j cs b hk hj
        rw[wU]at this;simpa using this)
    refine⟨goInt kk,_,ι,.inl (oX ho ?_),P2,P1,.eD _ _ (.int _ _),fun _ _=>rfl⟩
    rw[ex,hu]
    have:=Fk (w:=w) (sT:=t2) (ty:=o.type) ht hi ⟨B.b,oo,none⟩ ⟨b,o2,none⟩ ys.length sc len cap _ (by rw[wZ,OI,jf]) Qo dv
    rw[OI]at this
    exact this
  ·simp at hv
 ·simp at hv
end
end Go.Proofs.YtgoelphibofcmaaGreat.V

namespace Go.Proofs.YtgoelphibofcmaaGreat.V
open Go.RowKit
variable {P:Program} {w w':World} {D D' D2:Nat->Prop} {ι ι' ι2:Names}
section
variable {g:Rows} {hs:Nat}
theorem gi:∀{n:Nat} {l r:List AV},da g n l=some r->r.length=l.length/\∀(j:Nat) (b:AV),r[j]? =some b->∃a,l[j]? =some a/\fz g n a=some b
 |n,[],r,h=>by
  rw[da]at h;simp at h;subst h;simp
 |n,a::l,r,h=>by
  rw[da]at h
  split at h
  ·rename_i b hb
   simp only[Option.map_eq_some_iff]at h
   obtain⟨r',hr,rfl⟩:=h
   obtain⟨h1,h2⟩:=gi hr
   refine⟨by simp[h1],fun j c hj=>?_⟩
   cases j with
   |zero=>simp at hj;subst hj;exact⟨a,rfl,hb⟩
   |succ j=>simp at hj ⊢;exact h2 j c hj
  ·simp at h
theorem tZ:∀{n:Nat} {l r:List (List AV)},dM g n l=some r->r.length=l.length/\∀(j:Nat) (b:List AV),r[j]? =some b->∃a,l[j]? =some a/\da g n a=some b
 |n,[],r,h=>by
  rw[dM]at h;simp at h;subst h;simp
 |n,a::l,r,h=>by
  rw[dM]at h
  split at h
  ·rename_i b hb
   simp only[Option.map_eq_some_iff]at h
   obtain⟨r',hr,rfl⟩:=h
   obtain⟨h1,h2⟩:=tZ hr
   refine⟨by simp[h1],fun j c hj=>?_⟩
   cases j with
   |zero=>simp at hj;subst hj;exact⟨a,rfl,hb⟩
   |succ j=>simp at hj ⊢;exact h2 j c hj
  ·simp at h
theorem qc (hD:∀b,D b->D2 b) (vJ:∀id row,g id=some row->row.w=true->∃B,ι id=some B/\gu P w D ι B row/\D2 B.b):∀(n:Nat) (a:AV) (u:Value) (r:AV),cu P w D ι a u->fz g n a=some r->cu P w D2 ι2 r u/\(a.cell=true->jh P w D2 r u/\r.cell=true):=by
 intro n
 induction n with
 |zero=>intro a u r _ h;rw[fz]at h;simp at h
 |succ n ih=>
  intro a u r hr h
  have both:∀{r:AV},jh P w D2 r u->r.cell=true->cu P w D2 ι2 r u/\(a.cell=true->jh P w D2 r u/\r.cell=true):=fun h1 h2=>⟨.eD _ _ h1,fun _=>⟨h1,h2⟩⟩
  cases a with
  |map id m=>rw[fz]at h;cases h
  |p7 id=>rw[fz]at h;cases h
  |own id off len=>
   rw[fz]at h
   split at h
   ·rename_i row hg
    split at h
    ·rename_i hw
     split at h
     ·rename_i hle
      simp only[Option.map_eq_some_iff]at h
      obtain⟨rows,nI,rfl⟩:=h
      obtain⟨B,hB,R,LL⟩:=vJ id row hg hw
      obtain⟨o,cap,B',rfl,dr,h1,h2,h3,h4,hk⟩:=iy hr
      rw[hB]at dr;injection dr with dr;subst dr
      replace R:=R.row hk
      obtain⟨l1,l2⟩:=tZ nI
      have hlen:rows.length=len:=by rw[l1];simp;omega
      by_cases h0:rows=[]
      ·subst h0
       simp at hlen;subst hlen
       exact both (.zm _ _ h4) rfl
      ·have hlp:0<len:=by rw[<-hlen];exact List.length_pos_iff.2 h0
       have ho:o=off*B.sz:=by rcases h2 with h2|h2<;>omega
       have src:∀i cs,rows[i]? =some cs->∃c0,row.rows[off+i]? =some c0/\da g n c0=some cs:=fun i cs hi=>by
        obtain⟨c0,jk,hf⟩:=l2 i cs hi
        rw[List.getElem?_take]at jk
        split at jk
        ·rw[List.getElem?_drop]at jk;exact⟨c0,jk,hf⟩
        ·simp at jk
       have cell:∀i j,i<len->j<row.sz->∃c0 a0 v,row.rows[off+i]? =some c0/\c0[j]? =some a0/\w.cell? ⟨B.b,o+(i*row.sz+j),none⟩=some v/\cu P w D ι a0 v:=fun i j hi hj=>by
        have pN:off+i<row.rows.length:=by omega
        have e1:=List.getElem?_eq_getElem pN
        have IK:j<row.rows[off+i].length:=by rw[R.len _ (List.getElem_mem pN)];exact hj
        obtain⟨v,hv,kS⟩:=R.at_ _ _ _ _ e1 (List.getElem?_eq_getElem IK)
        refine⟨_,_,v,e1,List.getElem?_eq_getElem IK,?_,kS⟩
        rw[ho,R.sz,<-hv]
        congr 2
        rw[Nat.add_mul];omega
       refine both (.sl rows B.b o len cap row.sz (fun i j=>(w.cell? ⟨B.b,o+(i*row.sz+j),none⟩).getD undef) hlen h1 h4 LL (fun cs dn=>?_) (fun cs dn b hb=>?_) (fun i j hi hj=>?_) (fun i j cs b hi hj=>?_)) rfl
       ·obtain⟨i,hi,rfl⟩:=List.getElem_of_mem dn
        obtain⟨c0,jk,hf⟩:=src i _ (List.getElem?_eq_getElem hi)
        rw[(gi hf).1];exact R.len c0 (List.mem_of_getElem? jk)
       ·obtain⟨i,hi,rfl⟩:=List.getElem_of_mem dn
        obtain⟨c0,jk,hf⟩:=src i _ (List.getElem?_eq_getElem hi)
        obtain⟨j,hj,rfl⟩:=List.getElem_of_mem hb
        obtain⟨a0,kD,GP⟩:=(gi hf).2 j _ (List.getElem?_eq_getElem hj)
        obtain⟨v,_,kS⟩:=R.at_ _ _ _ _ jk kD
        exact((ih _ _ _ kS GP).2 (R.flat c0 (List.mem_of_getElem? jk) a0 (List.mem_of_getElem? kD))).2
       ·obtain⟨c0,a0,v,_,_,hv,_⟩:=cell i j hi hj
        simp only[hv,Option.getD_some]
       ·obtain⟨c0,jk,hf⟩:=src i cs hi
        obtain⟨a0,kD,GP⟩:=(gi hf).2 j b hj
        have kQ:i<len:=by rw[<-hlen];exact(List.getElem?_eq_some_iff.1 hi).1
        have gM:j<row.sz:=by rw[<-R.len c0 (List.mem_of_getElem? jk)];exact(List.getElem?_eq_some_iff.1 kD).1
        obtain⟨c1,a1,v,e1,e2,hv,kS⟩:=cell i j kQ gM
        rw[jk]at e1;injection e1 with e1;subst e1
        rw[kD]at e2;injection e2 with e2;subst e2
        simp only[hv,Option.getD_some]
        exact((ih _ _ _ kS GP).2 (R.flat c0 (List.mem_of_getElem? jk) a0 (List.mem_of_getElem? kD))).1
     ·simp at h
    ·simp at h
   ·simp at h
  |ptr id i off=>
   rw[fz]at h
   split at h
   ·rename_i row hg
    split at h
    ·rename_i hw
     split at h
     ·rename_i c0 jk
      simp only[Option.map_eq_some_iff]at h
      obtain⟨cs,dn,rfl⟩:=h
      obtain⟨B,hB,R,LL⟩:=vJ id row hg hw
      obtain⟨B',rfl,dr,hk⟩:=gZ hr
      rw[hB]at dr;injection dr with dr;subst dr
      replace R:=R.row hk
      obtain⟨l1,l2⟩:=gi dn
      have at_:∀j b,cs[j]? =some b->∃a0 v,w.cell? ⟨B.b,i*B.sz+off+j,none⟩=some v/\cu P w D ι a0 v/\a0.cell=true/\fz g n a0=some b:=fun j b hj=>by
       obtain⟨a0,kD,hf⟩:=l2 j b hj
       rw[List.getElem?_drop]at kD
       obtain⟨v,hv,kS⟩:=R.at_ _ _ _ _ jk kD
       refine⟨a0,v,?_,kS,R.flat c0 (List.mem_of_getElem? jk) a0 (List.mem_of_getElem? kD),hf⟩
       rw[R.sz,Nat.add_assoc];exact hv
      refine both (.cI cs B.b _ (fun j=>(w.cell? ⟨B.b,i*B.sz+off+j,none⟩).getD undef) LL (fun b hb=>?_) (fun j hj=>?_) (fun j b hj=>?_)) rfl
      ·obtain⟨j,hj,rfl⟩:=List.getElem_of_mem hb
       obtain⟨a0,v,_,kS,hc,hf⟩:=at_ j _ (List.getElem?_eq_getElem hj)
       exact((ih _ _ _ kS hf).2 hc).2
      ·obtain⟨a0,v,hv,_⟩:=at_ j _ (List.getElem?_eq_getElem hj)
       simp only[hv,Option.getD_some]
      ·obtain⟨a0,v,hv,kS,hc,hf⟩:=at_ j b hj
       simp only[hv,Option.getD_some]
       exact((ih _ _ _ kS hf).2 hc).1
     ·simp at h
    ·simp at h
   ·simp at h
  |agg cs=>
   rw[fz]at h
   simp only[Option.map_eq_some_iff]at h
   obtain⟨r',mY,rfl⟩:=h
   obtain⟨vs,f,rfl,h1,h2,h3,h4⟩:=iw hr
   obtain⟨l1,l2⟩:=gi mY
   have hI:jh P w D2 (.agg r') (.agg vs):=.agg r' vs f (by rw[h1,l1]) (fun b hb=>by
    obtain⟨j,hj,rfl⟩:=List.getElem_of_mem hb
    obtain⟨a0,kD,hf⟩:=l2 j _ (List.getElem?_eq_getElem hj)
    exact((ih _ _ _ (h4 j a0 kD) hf).2 (h2 a0 (List.mem_of_getElem? kD))).2) (fun j hj=>h3 j (by rw[<-l1];exact hj)) (fun j b hj=>by
    obtain⟨a0,kD,hf⟩:=l2 j b hj
    exact((ih _ _ _ (h4 j a0 kD) hf).2 (h2 a0 (List.mem_of_getElem? kD))).1)
   exact⟨.eD _ _ hI,fun hc=>by simp[AV.cell]at hc⟩
  |gn cs=>
   rw[fz]at h
   simp only[Option.map_eq_some_iff]at h
   obtain⟨r',mY,rfl⟩:=h
   obtain⟨vs,f,rfl,h1,h3,h4⟩:=tp hr
   obtain⟨l1,l2⟩:=gi mY
   exact⟨.gn r' vs f (by rw[h1,l1]) (fun j hj=>h3 j (by rw[<-l1];exact hj)) (fun j b hj=>by
    obtain⟨a0,kD,hf⟩:=l2 j b hj
    exact(ih _ _ _ (h4 j a0 kD) hf).1),fun hc=>by simp[AV.cell]at hc⟩
  |fn f cC=>
   rw[fz]at h
   split at h
   ·rename_i dy
    simp only[Option.map_eq_some_iff]at h
    obtain⟨r',mY,rfl⟩:=h
    obtain⟨vs,q,rfl,h0,h1,h3,h4⟩:=yJ hr
    obtain⟨l1,l2⟩:=gi mY
    exact both (.fn f r' vs q h0 (by rw[h1,l1]) (fun j hj=>h3 j (by rw[<-l1];exact hj)) (fun j b hj=>by
     obtain⟨a0,kD,hf⟩:=l2 j b hj
     exact((ih _ _ _ (h4 j a0 kD) hf).2 (List.all_eq_true.1 dy a0 (List.mem_of_getElem? kD))).1)) rfl
   ·simp at h
  |int k m=>rw[fz]at h<;>(try simp at h)<;>(try subst h)<;>(try(rw[de hr];exact⟨.eD _ _ (.int _ _),fun _=>⟨.int _ _,rfl⟩⟩))<;>(try(intros;simp_all))
  |bool b=>rw[fz]at h<;>(try simp at h)<;>(try subst h)<;>(try(rw[eQ hr];exact⟨.eD _ _ (.bool _),fun _=>⟨.bool _,rfl⟩⟩))<;>(try(intros;simp_all))
  |str b=>rw[fz]at h<;>(try simp at h)<;>(try subst h)<;>(try(rw[fe hr];exact⟨.eD _ _ (.str _),fun _=>⟨.str _,rfl⟩⟩))<;>(try(intros;simp_all))
  |b4=>rw[fz]at h<;>(try simp at h)<;>(try subst h)<;>(try(rw[jN hr];exact⟨.eD _ _ .b4,fun _=>⟨.b4,rfl⟩⟩))<;>(try(intros;simp_all))
  |iD=>rw[fz]at h<;>(try simp at h)<;>(try subst h)<;>(try(rw[uL hr];exact⟨.eD _ _ .iD,fun _=>⟨.iD,rfl⟩⟩))<;>(try(intros;simp_all))
  |iQ=>rw[fz]at h<;>(try simp at h)<;>(try subst h)<;>(try(rw[AL hr];exact⟨.eD _ _ .iQ,fun _=>⟨.iQ,rfl⟩⟩))<;>(try(intros;simp_all))
  |sC f cC=>rw[fz]at h<;>(try simp at h)<;>(try(intros;simp_all))
  |gD=>rw[fz]at h<;>(try simp at h)<;>(try subst h)<;>(try(cases hr with|eD _ _ hr=>exact both (hr.frame (fun _ _=>rfl) hD) rfl))<;>(try(intros;simp_all))
  |sl rows=>rw[fz]at h<;>(try simp at h)<;>(try subst h)<;>(try(cases hr with|eD _ _ hr=>exact both (hr.frame (fun _ _=>rfl) hD) rfl))<;>(try(intros;simp_all))
  |cI cs=>rw[fz]at h<;>(try simp at h)<;>(try subst h)<;>(try(cases hr with|eD _ _ hr=>exact both (hr.frame (fun _ _=>rfl) hD) rfl))<;>(try(intros;simp_all))
theorem iA:∀{n:Nat} {l r:List AV},dU g n l=some r->r.length=l.length/\∀(j:Nat) (b:AV),r[j]? =some b->∃a,l[j]? =some a/\fZ g n a=some b
 |n,[],r,h=>by
  rw[dU]at h;simp at h;subst h;simp
 |n,a::l,r,h=>by
  rw[dU]at h
  split at h
  ·rename_i b hb
   simp only[Option.map_eq_some_iff]at h
   obtain⟨r',hr,rfl⟩:=h
   obtain⟨h1,h2⟩:=iA hr
   refine⟨by simp[h1],fun j c hj=>?_⟩
   cases j with
   |zero=>simp at hj;subst hj;exact⟨a,rfl,hb⟩
   |succ j=>simp at hj ⊢;exact h2 j c hj
  ·simp at h
theorem sj:∀{n:Nat} {l r:List (List AV)},gN g n l=some r->r.length=l.length/\∀(j:Nat) (b:List AV),r[j]? =some b->∃a,l[j]? =some a/\dU g n a=some b
 |n,[],r,h=>by
  rw[gN]at h;simp at h;subst h;simp
 |n,a::l,r,h=>by
  rw[gN]at h
  split at h
  ·rename_i b hb
   simp only[Option.map_eq_some_iff]at h
   obtain⟨r',hr,rfl⟩:=h
   obtain⟨h1,h2⟩:=sj hr
   refine⟨by simp[h1],fun j c hj=>?_⟩
   cases j with
   |zero=>simp at hj;subst hj;exact⟨a,rfl,hb⟩
   |succ j=>simp at hj ⊢;exact h2 j c hj
  ·simp at h
theorem Eu (vJ:∀id row,g id=some row->row.w=true->∃B,ι id=some B/\gu P w D ι B row/\D2 B.b):∀(n:Nat) (a:AV) (u:Value) (r:AV),cu P w D ι a u->fZ g n a=some r->cu P w D2 ι2 r u/\(a.cell=true->jh P w D2 r u/\r.cell=true):=by
 intro n
 induction n with
 |zero=>intro a u r _ h;rw[fZ]at h;simp at h
 |succ n ih=>
  intro a u r hr h
  have both:∀{r:AV},jh P w D2 r u->r.cell=true->cu P w D2 ι2 r u/\(a.cell=true->jh P w D2 r u/\r.cell=true):=fun h1 h2=>⟨.eD _ _ h1,fun _=>⟨h1,h2⟩⟩
  cases a with
  |map id m=>rw[fZ]at h<;>simp_all
  |p7 id=>rw[fZ]at h<;>simp_all
  |own id off len=>
   rw[fZ]at h
   split at h
   ·rename_i row hg
    split at h
    ·rename_i hw
     split at h
     ·rename_i hle
      simp only[Option.map_eq_some_iff]at h
      obtain⟨rows,nI,rfl⟩:=h
      obtain⟨B,hB,R,LL⟩:=vJ id row hg hw
      obtain⟨o,cap,B',rfl,dr,h1,h2,h3,h4,hk⟩:=iy hr
      rw[hB]at dr;injection dr with dr;subst dr
      replace R:=R.row hk
      obtain⟨l1,l2⟩:=sj nI
      have hlen:rows.length=len:=by rw[l1];simp;omega
      by_cases h0:rows=[]
      ·subst h0
       simp at hlen;subst hlen
       exact both (.zm _ _ h4) rfl
      ·have hlp:0<len:=by rw[<-hlen];exact List.length_pos_iff.2 h0
       have ho:o=off*B.sz:=by rcases h2 with h2|h2<;>omega
       have src:∀i cs,rows[i]? =some cs->∃c0,row.rows[off+i]? =some c0/\dU g n c0=some cs:=fun i cs hi=>by
        obtain⟨c0,jk,hf⟩:=l2 i cs hi
        rw[List.getElem?_take]at jk
        split at jk
        ·rw[List.getElem?_drop]at jk;exact⟨c0,jk,hf⟩
        ·simp at jk
       have cell:∀i j,i<len->j<row.sz->∃c0 a0 v,row.rows[off+i]? =some c0/\c0[j]? =some a0/\w.cell? ⟨B.b,o+(i*row.sz+j),none⟩=some v/\cu P w D ι a0 v:=fun i j hi hj=>by
        have pN:off+i<row.rows.length:=by omega
        have e1:=List.getElem?_eq_getElem pN
        have IK:j<row.rows[off+i].length:=by rw[R.len _ (List.getElem_mem pN)];exact hj
        obtain⟨v,hv,kS⟩:=R.at_ _ _ _ _ e1 (List.getElem?_eq_getElem IK)
        refine⟨_,_,v,e1,List.getElem?_eq_getElem IK,?_,kS⟩
        rw[ho,R.sz,<-hv]
        congr 2
        rw[Nat.add_mul];omega
       refine both (.sl rows B.b o len cap row.sz (fun i j=>(w.cell? ⟨B.b,o+(i*row.sz+j),none⟩).getD undef) hlen h1 h4 LL (fun cs dn=>?_) (fun cs dn b hb=>?_) (fun i j hi hj=>?_) (fun i j cs b hi hj=>?_)) rfl
       ·obtain⟨i,hi,rfl⟩:=List.getElem_of_mem dn
        obtain⟨c0,jk,hf⟩:=src i _ (List.getElem?_eq_getElem hi)
        rw[(iA hf).1];exact R.len c0 (List.mem_of_getElem? jk)
       ·obtain⟨i,hi,rfl⟩:=List.getElem_of_mem dn
        obtain⟨c0,jk,hf⟩:=src i _ (List.getElem?_eq_getElem hi)
        obtain⟨j,hj,rfl⟩:=List.getElem_of_mem hb
        obtain⟨a0,kD,GP⟩:=(iA hf).2 j _ (List.getElem?_eq_getElem hj)
        obtain⟨v,_,kS⟩:=R.at_ _ _ _ _ jk kD
        exact((ih _ _ _ kS GP).2 (R.flat c0 (List.mem_of_getElem? jk) a0 (List.mem_of_getElem? kD))).2
       ·obtain⟨c0,a0,v,_,_,hv,_⟩:=cell i j hi hj
        simp only[hv,Option.getD_some]
       ·obtain⟨c0,jk,hf⟩:=src i cs hi
        obtain⟨a0,kD,GP⟩:=(iA hf).2 j b hj
        have kQ:i<len:=by rw[<-hlen];exact(List.getElem?_eq_some_iff.1 hi).1
        have gM:j<row.sz:=by rw[<-R.len c0 (List.mem_of_getElem? jk)];exact(List.getElem?_eq_some_iff.1 kD).1
        obtain⟨c1,a1,v,e1,e2,hv,kS⟩:=cell i j kQ gM
        rw[jk]at e1;injection e1 with e1;subst e1
        rw[kD]at e2;injection e2 with e2;subst e2
        simp only[hv,Option.getD_some]
        exact((ih _ _ _ kS GP).2 (R.flat c0 (List.mem_of_getElem? jk) a0 (List.mem_of_getElem? kD))).1
     ·simp at h
    ·simp at h
   ·simp at h
  |ptr id i off=>
   rw[fZ]at h
   split at h
   ·rename_i row hg
    split at h
    ·rename_i hw
     split at h
     ·rename_i c0 jk
      simp only[Option.map_eq_some_iff]at h
      obtain⟨cs,dn,rfl⟩:=h
      obtain⟨B,hB,R,LL⟩:=vJ id row hg hw
      obtain⟨B',rfl,dr,hk⟩:=gZ hr
      rw[hB]at dr;injection dr with dr;subst dr
      replace R:=R.row hk
      obtain⟨l1,l2⟩:=iA dn
      have at_:∀j b,cs[j]? =some b->∃a0 v,w.cell? ⟨B.b,i*B.sz+off+j,none⟩=some v/\cu P w D ι a0 v/\a0.cell=true/\fZ g n a0=some b:=fun j b hj=>by
       obtain⟨a0,kD,hf⟩:=l2 j b hj
       rw[List.getElem?_drop]at kD
       obtain⟨v,hv,kS⟩:=R.at_ _ _ _ _ jk kD
       refine⟨a0,v,?_,kS,R.flat c0 (List.mem_of_getElem? jk) a0 (List.mem_of_getElem? kD),hf⟩
       rw[R.sz,Nat.add_assoc];exact hv
      refine both (.cI cs B.b _ (fun j=>(w.cell? ⟨B.b,i*B.sz+off+j,none⟩).getD undef) LL (fun b hb=>?_) (fun j hj=>?_) (fun j b hj=>?_)) rfl
      ·obtain⟨j,hj,rfl⟩:=List.getElem_of_mem hb
       obtain⟨a0,v,_,kS,hc,hf⟩:=at_ j _ (List.getElem?_eq_getElem hj)
       exact((ih _ _ _ kS hf).2 hc).2
      ·obtain⟨a0,v,hv,_⟩:=at_ j _ (List.getElem?_eq_getElem hj)
       simp only[hv,Option.getD_some]
      ·obtain⟨a0,v,hv,kS,hc,hf⟩:=at_ j b hj
       simp only[hv,Option.getD_some]
       exact((ih _ _ _ kS hf).2 hc).1
     ·simp at h
    ·simp at h
   ·simp at h
  |agg cs=>
   rw[fZ]at h
   simp only[Option.map_eq_some_iff]at h
   obtain⟨r',mY,rfl⟩:=h
   obtain⟨vs,f,rfl,h1,h2,h3,h4⟩:=iw hr
   obtain⟨l1,l2⟩:=iA mY
   have hI:jh P w D2 (.agg r') (.agg vs):=.agg r' vs f (by rw[h1,l1]) (fun b hb=>by
    obtain⟨j,hj,rfl⟩:=List.getElem_of_mem hb
    obtain⟨a0,kD,hf⟩:=l2 j _ (List.getElem?_eq_getElem hj)
    exact((ih _ _ _ (h4 j a0 kD) hf).2 (h2 a0 (List.mem_of_getElem? kD))).2) (fun j hj=>h3 j (by rw[<-l1];exact hj)) (fun j b hj=>by
    obtain⟨a0,kD,hf⟩:=l2 j b hj
    exact((ih _ _ _ (h4 j a0 kD) hf).2 (h2 a0 (List.mem_of_getElem? kD))).1)
   exact⟨.eD _ _ hI,fun hc=>by simp[AV.cell]at hc⟩
  |gn cs=>
   rw[fZ]at h
   simp only[Option.map_eq_some_iff]at h
   obtain⟨r',mY,rfl⟩:=h
   obtain⟨vs,f,rfl,h1,h3,h4⟩:=tp hr
   obtain⟨l1,l2⟩:=iA mY
   exact⟨.gn r' vs f (by rw[h1,l1]) (fun j hj=>h3 j (by rw[<-l1];exact hj)) (fun j b hj=>by
    obtain⟨a0,kD,hf⟩:=l2 j b hj
    exact(ih _ _ _ (h4 j a0 kD) hf).1),fun hc=>by simp[AV.cell]at hc⟩
  |fn f cC=>rw[fZ]at h<;>(try simp at h)<;>(try(intros;simp_all))
  |int k m=>rw[fZ]at h<;>(try simp at h)<;>(try subst h)<;>(try(rw[de hr];exact⟨.eD _ _ (.int _ _),fun _=>⟨.int _ _,rfl⟩⟩))<;>(try(intros;simp_all))
  |bool b=>rw[fZ]at h<;>(try simp at h)<;>(try subst h)<;>(try(rw[eQ hr];exact⟨.eD _ _ (.bool _),fun _=>⟨.bool _,rfl⟩⟩))<;>(try(intros;simp_all))
  |str b=>rw[fZ]at h<;>(try simp at h)<;>(try subst h)<;>(try(rw[fe hr];exact⟨.eD _ _ (.str _),fun _=>⟨.str _,rfl⟩⟩))<;>(try(intros;simp_all))
  |b4=>rw[fZ]at h<;>(try simp at h)<;>(try subst h)<;>(try(rw[jN hr];exact⟨.eD _ _ .b4,fun _=>⟨.b4,rfl⟩⟩))<;>(try(intros;simp_all))
  |iD=>rw[fZ]at h<;>(try simp at h)<;>(try subst h)<;>(try(rw[uL hr];exact⟨.eD _ _ .iD,fun _=>⟨.iD,rfl⟩⟩))<;>(try(intros;simp_all))
  |iQ=>rw[fZ]at h<;>(try simp at h)<;>(try subst h)<;>(try(rw[AL hr];exact⟨.eD _ _ .iQ,fun _=>⟨.iQ,rfl⟩⟩))<;>(try(intros;simp_all))
  |sC f cC=>rw[fZ]at h<;>(try simp at h)<;>(try(intros;simp_all))
  |gD=>rw[fZ]at h<;>(try simp at h)<;>(try subst h)<;>(try(cases hr with|eD _ _ hr=>cases hr;exact both .gD rfl))<;>(try(intros;simp_all))
  |sl rows=>rw[fZ]at h<;>(try simp at h)<;>(try(intros;simp_all))
  |cI cs=>rw[fZ]at h<;>(try simp at h)<;>(try(intros;simp_all))
end
end Go.Proofs.YtgoelphibofcmaaGreat.V

namespace Go.Proofs.YtgoelphibofcmaaGreat.V
open Go.RowKit
variable {P:Program} {w w':World} {D D':Nat->Prop} {ι ι':Names}
section
variable {g:Rows} {hs:Nat} {env:Env} {a:Act} {o:Oper} {id:Id} {v:AV}
theorem fR.FB (S:fR P hs D ι g w) {i:Id} {r r':Row} {B:qO} {ob:Obj} (hid:g i=some r) (hw:r.w=true) (hB:ι i=some B)
  (hR:(∀a v,cu P w D ι a v->cu P {w with heap:=w.heap.setIfInBounds B.b ob} D ι a v)->(w.heap.setIfInBounds B.b ob)[B.b]? =some ob->gu P {w with heap:=w.heap.setIfInBounds B.b ob} D ι B r'):
  fR P hs D ι (bj g i r') {w with heap:=w.heap.setIfInBounds B.b ob}/\Step hs D ι w D ι {w with heap:=w.heap.setIfInBounds B.b ob}:=by
 obtain⟨B0,zU,R,jS,oe⟩:=S.row i r hid
 rw[hB]at zU;injection zU with zU;subst zU
 have other:∀b,b≠B.b->(w.heap.setIfInBounds B.b ob)[b]? =w.heap[b]? :=fun b hb=>by simp[Ne.symm hb]
 have hd:∀b,D b->(w.heap.setIfInBounds B.b ob)[b]? =w.heap[b]? :=fun b hb=>other b (by rintro rfl;exact oe hw hb)
 have hr:∀a v,cu P w D ι a v->cu P {w with heap:=w.heap.setIfInBounds B.b ob} D ι a v:=fun a v h=>h.frame hd (fun _ h=>h) (fun _ _ h=>h)
 refine⟨⟨by simpa using S.lo,fun b hb=>by simpa using S.dead b hb,fun j q h=>?_,fun j j' q q' C C' h h' G5 hC sR he=>?_⟩,⟨⟨rfl,rfl,rfl,by simp,fun k hk=>other k (by have:=jS hw;omega)⟩,hd,fun _ h=>h,fun _ _ h=>h,fun _ h=>.inl h⟩⟩
 ·unfold bj at h
  split at h
  ·rename_i e
   subst e
   injection h with h;subst h
   exact⟨B,hB,hR hr (by simp[R.lt]),fun _=>jS hw,fun _=>oe hw⟩
  ·rename_i e
   obtain⟨C,hC,RC,k1,k2⟩:=S.row j q h
   refine⟨C,hC,RC.frame (other C.b (fun KD=>e ?_)) hr,k1,k2⟩
   exact(S.inj i j r q B C hid h hw hB hC KD.symm).symm
 ·unfold bj at h h'
  have get:∀j p,(if j=i then some r' else g j)=some p->∃p0,g j=some p0/\(p.w=true->p0.w=true):=fun j p hp=>by
   split at hp
   ·rename_i e;subst e;injection hp with hp;subst hp;exact⟨r,hid,fun _=>hw⟩
   ·exact⟨p,hp,fun h=>h⟩
  obtain⟨p,hp,NA⟩:=get _ _ h
  obtain⟨p',L9,_⟩:=get _ _ h'
  exact S.inj j j' p p' C C' hp L9 (NA G5) hC sR he
theorem Dc {s:TS} {x y:AV} {u v:Value} (he:fS s x y=some true) (hx:cu P w D ι x u) (hy:cu P w D ι y v):u=v/\∀n,Instr.sameBits n u v=true:=by
 unfold fS at he
 split at he
 ·split at he
  ·rename_i hk
   subst hk
   simp at he;subst he
   rw[de hx,de hy]
   exact⟨rfl,fun n=>by cases n<;>simp[Instr.sameBits]⟩
  ·cases he
 ·simp at he;subst he
  rw[eQ hx,eQ hy]
  exact⟨rfl,fun n=>by cases n<;>simp[Instr.sameBits]⟩
 ·simp at he;subst he
  rw[fe hx,fe hy]
  exact⟨rfl,fun n=>by cases n<;>simp[Instr.sameBits,Gd]⟩
 ·cases he
theorem zL {n:Nat}:∀{ts:List TS} {xs ys:List AV} {vs us:List Value},eU ts xs ys=some true->vs.length=xs.length->us.length=ys.length->(∀(j:Nat) (a:AV),xs[j]? =some a->∃u,vs[j]? =some u/\cu P w D ι a u)->(∀(j:Nat) (a:AV),ys[j]? =some a->∃u,us[j]? =some u/\cu P w D ι a u)->
  us.length=vs.length/\(us.zip vs).all (fun p=>Instr.sameBits n p.1 p.2)=true
 |[],[],[],vs,us,_,h1,h2,_,_=>by
  cases vs<;>cases us<;>simp_all
 |[],x::xs,ys,vs,us,h,_,_,_,_=>by simp[eU]at h
 |[],[],y::ys,vs,us,h,_,_,_,_=>by simp[eU]at h
 |t::ts,[],ys,vs,us,h,_,_,_,_=>by simp[eU]at h
 |t::ts,x::xs,[],vs,us,h,_,_,_,_=>by simp[eU]at h
 |t::ts,x::xs,y::ys,[],us,h,h1,_,_,_=>by simp at h1
 |t::ts,x::xs,y::ys,v::vs,[],h,_,h2,_,_=>by simp at h2
 |t::ts,x::xs,y::ys,v::vs,u::us,h,h1,h2,hx,hy=>by
  unfold eU at h
  split at h
  ·rename_i a b ha hb
   simp only[Option.some.injEq,Bool.and_eq_true]at h
   obtain⟨rfl,rfl⟩:=h
   obtain⟨v',mT,rv⟩:=hx 0 x rfl
   obtain⟨u',Du,ru⟩:=hy 0 y rfl
   simp at mT Du;subst mT;subst Du
   obtain⟨e1,e2⟩:=Dc ha rv ru
   obtain⟨q1,q2⟩:=zL (n:=n) hb (by simpa using h1) (by simpa using h2) (fun j a hj=>by simpa using hx (j+1) a (by simpa using hj)) (fun j a hj=>by simpa using hy (j+1) a (by simpa using hj))
   refine⟨by simp[q1],?_⟩
   simp only[List.zip_cons_cons,List.all_cons,q2,Bool.and_true]
   rw[<-e1]
   have:=e2 n
   rw[<-e1]at this
   exact this
  ·cases h
theorem Aw {m:MK} {key:List AV}:∀{rows:List (List AV)} {i j:Nat},fJ m key rows i=some (some j)->∃cs,i<=j/\rows[j-i]? =some cs/\eU m.ts key (cs.take m.ks)=some true
 |[],i,j,h=>by simp[fJ]at h
 |cs::rows,i,j,h=>by
  unfold fJ at h
  split at h
  ·rename_i hq
   simp at h;subst h
   exact⟨cs,Nat.le_refl _,by simp,hq⟩
  ·obtain⟨c,h1,h2,h3⟩:=Aw h
   exact⟨c,by omega,by rw[show j-i=(j-(i+1))+1 by omega];simpa using h2,h3⟩
  ·cases h
theorem uz {m:MK} {k:AV} {rows:List (List AV)} {fi:Option Nat} (h:fx m k rows=some fi):k.isAgg=m.ka/\k.cells.length=m.ks/\(k.cells.all AV.cell=true)/\fJ m k.cells rows 0=some fi:=by
 unfold fx at h
 split at h
 ·rename_i hc;exact⟨hc.1,hc.2.1,hc.2.2,h⟩
 ·cases h
theorem HI {m:MK} {k y:AV} (h1:k.isAgg=m.ka) (h2:k.cells.length=m.ks):part m.ka m.ks (k.cells++[y])=some k/\(k.cells++[y])[m.ks]? =some y:=by
 refine⟨?_,by rw[List.getElem?_append_right (by omega),h2,Nat.sub_self];rfl⟩
 cases hk:m.ka with
 |false=>
  rw[hk]at h1
  rw[tN h1];rfl
 |true=>
  rw[hk]at h1
  cases k<;>simp[AV.isAgg]at h1
  rename_i cs
  simp only[AV.cells]at h2 ⊢
  simp only[part,if_true]
  rw[if_pos (by simp;omega),<-h2,List.take_left']
  rfl
theorem stays {k:TypeId} {m:MK} (hK:C1 P k m) {key kv:AV} {u xl:Value} {cs:List AV} (h1:key.isAgg=m.ka) (hr:cu P w D ι key u) (hp:part m.ka m.ks cs=some kv) (ho:cu P w D ι kv xl) (he:eU m.ts key.cells (cs.take m.ks)=some true):(Instr.keyThatStays xl u).run P w=.ok u w:=by
 have hs:Instr.sameBits 10000 xl u=true:=by
  rcases hK with⟨s,rfl,hs⟩|⟨fs,ts,rfl,qd,vZ,dv,dy⟩
  ·rw[tN h1]at he
   cases cs with
   |nil=>simp[part]at hp
   |cons c l=>
    simp[part]at hp;subst hp
    simp only[MK.ks,List.length_cons,List.length_nil,Nat.zero_add,List.take_succ_cons,List.take_zero,eU]at he
    cases hq:fS s key c with
    |none=>rw[hq]at he;simp at he
    |some b=>
     rw[hq]at he;simp at he;subst he
     obtain⟨e1,e2⟩:=Dc hq hr ho
     rw[<-e1]
     have:=e2 10000
     rwa [<-e1]at this
  ·cases key<;>simp[AV.isAgg]at h1
   rename_i ks
   simp only[part,if_true]at hp
   split at hp
   ·simp only[Option.some.injEq]at hp;subst hp
    obtain⟨vs,rfl,n1,r1⟩:=qv hr
    obtain⟨us,rfl,n2,r2⟩:=qv ho
    obtain⟨q1,q2⟩:=zL (n:=9999) (vs:=vs.toList) (us:=us.toList) he (by simpa[AV.cells]using n1) (by simpa using n2) (fun j a hj=>by simpa using r1 j a hj) (fun j a hj=>by simpa using r2 j a hj)
    simp only[Instr.sameBits,Bool.and_eq_true,beq_iff_eq]
    exact⟨by simpa using q1,q2⟩
   ·cases hp
 simp[Instr.keyThatStays,hs]
theorem H4 {es:Array MapEntry} {clock:Nat} (h:IY es clock) (k v:Value):IY (es.push ⟨k,v,clock⟩) (clock+1):=by
 refine⟨fun x hx=>?_,?_⟩
 ·simp only[Array.toList_push,List.mem_append,List.mem_singleton]at hx
  rcases hx with hx|rfl
  ·have:=h.1 x hx;omega
  ·exact Nat.lt_succ_self _
 ·simp only[Array.toList_push,List.map_append,List.map_cons,List.map_nil]
  refine List.nodup_append.2 ⟨h.2,by simp,fun a ha b hb=>?_⟩
  obtain⟨x,hx,rfl⟩:=List.mem_map.1 ha
  simp at hb;subst hb
  have:=h.1 x hx;omega
theorem CJ {es:Array MapEntry} {clock:Nat} (h:IY es clock) (j:Nat) (k v:Value):IY (es.modify j fun e=>{e with key:=k,val:=v}) clock:=by
 have e:(es.modify j fun e=>{e with key:=k,val:=v}).toList.map (·.born)=es.toList.map (·.born):=by
  refine List.ext_getElem? fun i=>?_
  simp only[List.getElem?_map,Array.getElem?_toList,Array.getElem?_modify]
  split
  ·cases es[i]? <;>rfl
  ·rfl
 refine⟨fun x hx=>?_,by rw[e];exact h.2⟩
 have hb:x.born∈(es.modify j fun e=>{e with key:=k,val:=v}).toList.map (·.born):=List.mem_map_of_mem hx
 rw[e]at hb
 obtain⟨y,hy,hyb⟩:=List.mem_map.1 hb
 rw[<-hyb];exact h.1 y hy
theorem Fp {es:Array MapEntry} {clock:Nat} (h:IY es clock) {j:Nat} (hj:j<es.size):IY (es.eraseIdxIfInBounds j) clock:=by
 have e:(es.eraseIdxIfInBounds j).toList=es.toList.eraseIdx j:=by
  unfold Array.eraseIdxIfInBounds
  rw[dif_pos hj,Array.toList_eraseIdx]
 refine⟨fun x hx=>h.1 x ((List.eraseIdx_sublist _ _).subset (by rwa [e]at hx)),?_⟩
 rw[e]
 exact((List.eraseIdx_sublist es.toList j).map (·.born)).nodup h.2
theorem zP {k y:AV} (h1:k.cells.all AV.cell=true) (h2:y.cell=true):∀a∈k.cells++[y],a.cell=true:=fun a ha=>by
 rcases List.mem_append.1 ha with ha|ha
 ·exact List.all_eq_true.1 h1 a ha
 ·rw[List.mem_singleton.1 ha];exact h2
theorem Lx {t:TypeId} {x k y:Operand} {m:MK} {z:K} {x' k' y':O} {g':Rows} (S:fR P hs D ι g w) (E:bJ P w D ι env a) (ho:o.op=.mapUpdate t x k y∨o.op=.insert t x k y) (hc:qY P t=some (m,z)) (hx:cO P x=some x') (hk:cO P k=some k') (hy:cO P y=some y')
  (hv:bB (.set m) [cF env x',cF env k',cF env y'] g=some g'):Bi P hs a o w D ι id .undef g':=by
 obtain⟨kt,e,i,zv,ht,hi,uo,Qn,hK⟩:=pY hc
 simp only[bB,Option.bind_eq_some_iff]at hv
 obtain⟨p,hp,fi,EA,hv⟩:=hv
 split at hv
 ·rename_i hcond
  obtain⟨hw,hyc,_⟩:=hcond
  simp only[Option.some.injEq]at hv;subst hv
  obtain⟨B,hu,hg,hB,ta,es,clock,hb,eW,hlen,hM⟩:=yz S (db E hx) hp
  have rk:=db E hk
  have ry:=db E hy
  obtain⟨IG,res,hf,hF⟩:=tW (B:=B) hK rk eW hM EA
  obtain⟨k1,k2,k3,k4⟩:=uz EA
  obtain⟨B',dr,R,_⟩:=S.row p.1 p.2 hg
  rw[hB]at dr;injection dr with dr;subst dr
  obtain⟨pk1,pk2⟩:=HI (y:=cF env y') k1 k2
  have gL:(getObj B.b).run P w=.ok (.map es clock) w:=MapKept.run_getObj_map hb
  rcases hF with⟨rfl,rfl⟩|⟨j,en,rfl,he,rfl⟩
  ·have mO:=S.FB (ob:=.map (es.push ⟨a.eval k,a.eval y,clock⟩) (clock+1)) (r':={p.2 with rows:=dI p.2.rows ((cF env k').cells++[cF env y']) none}) hg hw hB fun hr jT=>⟨R.sz,fun cs dn=>?_,fun vw=>(by rw[ta]at vw;cases vw),fun m' z7=>?_,fun c hc=>(by rw[ta]at hc;cases hc)⟩
   ·refine⟨undef,_,ι,.inr ⟨?_,rfl⟩,mO.2,mO.1,cu.undef,fun _ _=>rfl⟩
    rcases ho with ho|ho<;>
    ·simp only[execOp,ho,Instr.mapUpdate,hu,Sem.run_bind,run_underlying ht,Result.andThen_ok,gL,IG,hf,MapKept.run_setObj_map _ hb,Sem.run_pure]
   ·rcases List.mem_append.1 dn with h|h
    ·exact R.flat cs h
    ·rw[List.mem_singleton.1 h];exact zP k3 hyc
   ·rw[ta]at z7;simp only[Option.some.injEq,BK.map.injEq]at z7;subst z7
    refine⟨(R.map m ta).1,_,_,jT,by simp[dI,eW],⟨fun cs dn=>?_,H4 hlen.2 _ _⟩,fun q cs hq=>?_⟩
    ·rcases List.mem_append.1 dn with h|h
     ·exact hlen.1 cs h
     ·rw[List.mem_singleton.1 h];simp[k2]
    ·rcases Nat.lt_or_ge q p.2.rows.length with dE|pq
     ·simp only[dI]at hq
      rw[List.getElem?_append_left dE]at hq
      obtain⟨en,kv,vv,q1,q2,q3,q4,q5⟩:=hM q cs hq
      exact⟨en,kv,vv,by rw[Array.getElem?_push_lt (by omega)];rw[Array.getElem?_eq_getElem (by omega)]at q1;simpa using q1,q2,q3,hr _ _ q4,hr _ _ q5⟩
     ·simp only[dI]at hq
      rw[List.getElem?_append_right pq]at hq
      have KL:q=p.2.rows.length:=by
       have:=(List.getElem?_eq_some_iff.1 hq).1
       simp at this;omega
      subst KL
      simp at hq;subst hq
      exact⟨⟨a.eval k,a.eval y,clock⟩,_,_,by rw[<-eW];simp,pk1,pk2,hr _ _ rk,hr _ _ ry⟩
  ·simp only[Nat.zero_add]at k4 EA hf ⊢
   obtain⟨Nr,_,Jj,heq⟩:=Aw k4
   simp only[Nat.sub_zero]at Jj
   obtain⟨N4,kv,vv,q1,q2,_,q4,_⟩:=hM j Nr Jj
   have KF:N4=en:=by
    have h1:es.toList[j]? =some N4:=by simpa using q1
    rw[he]at h1;injection h1 with h1;exact h1.symm
   subst KF
   have dv:=stays (w:=w) hK k1 rk q2 q4 heq
   have mO:=S.FB (ob:=.map (es.modify j fun e=>{e with key:=a.eval k,val:=a.eval y}) clock) (r':={p.2 with rows:=dI p.2.rows ((cF env k').cells++[cF env y']) (some j)}) hg hw hB fun hr jT=>⟨R.sz,fun cs dn=>?_,fun vw=>(by rw[ta]at vw;cases vw),fun m' z7=>?_,fun c hc=>(by rw[ta]at hc;cases hc)⟩
   ·refine⟨undef,_,ι,.inr ⟨?_,rfl⟩,mO.2,mO.1,cu.undef,fun _ _=>rfl⟩
    rcases ho with ho|ho<;>
    ·simp only[execOp,ho,Instr.mapUpdate,hu,Sem.run_bind,run_underlying ht,Result.andThen_ok,gL,IG,hf,q1,Option.map_some,Option.getD_some,dv,MapKept.run_setObj_map _ hb,Sem.run_pure]
   ·rcases List.mem_or_eq_of_mem_set dn with h|h
    ·exact R.flat cs h
    ·rw[h];exact zP k3 hyc
   ·rw[ta]at z7;simp only[Option.some.injEq,BK.map.injEq]at z7;subst z7
    have gM:=(List.getElem?_eq_some_iff.1 Jj).1
    refine⟨(R.map m ta).1,_,_,jT,by simp[dI,eW],⟨fun cs dn=>?_,CJ hlen.2 _ _ _⟩,fun q cs hq=>?_⟩
    ·rcases List.mem_or_eq_of_mem_set dn with h|h
     ·exact hlen.1 cs h
     ·rw[h];simp[k2]
    ·simp only[dI,List.getElem?_set]at hq
     split at hq
     ·rename_i Nv
      subst Nv
      (try rw[if_pos gM]at hq)
      injection hq with hq;subst hq
      exact⟨{N4 with key:=a.eval k,val:=a.eval y},_,_,by rw[Array.getElem?_modify];simp[q1],pk1,pk2,hr _ _ rk,hr _ _ ry⟩
     ·rename_i Nv
      obtain⟨en,kv,vv,q1,q2,q3,q4,q5⟩:=hM q cs hq
      exact⟨en,kv,vv,by rw[Array.getElem?_modify];simp[Nv,q1],q2,q3,hr _ _ q4,hr _ _ q5⟩
 ·cases hv
theorem Lw {t t':TypeId} {x k:Operand} {m:MK} {z:K} {x' k':O} {g':Rows} (S:fR P hs D ι g w) (E:bJ P w D ι env a) (ho:o.op=.call {callee:=.builtin .delete,args:= #[x,k],argTypes:= #[t,t']}) (hc:qY P t=some (m,z)) (hx:cO P x=some x') (hk:cO P k=some k')
  (hv:bB (.del m) [cF env x',cF env k'] g=some g'):Bi P hs a o w D ι id .undef g':=by
 obtain⟨kt,e,i,zv,ht,hi,uo,Qn,hK⟩:=pY hc
 simp only[bB,Option.bind_eq_some_iff]at hv
 obtain⟨p,hp,fi,EA,hv⟩:=hv
 split at hv
 ·rename_i hw
  simp only[Option.some.injEq]at hv;subst hv
  obtain⟨B,hu,hg,hB,ta,es,clock,hb,eW,hlen,hM⟩:=yz S (db E hx) hp
  have rk:=db E hk
  obtain⟨IG,res,hf,hF⟩:=tW (B:=B) hK rk eW hM EA
  obtain⟨k1,k2,k3,k4⟩:=uz EA
  obtain⟨B',dr,R,_⟩:=S.row p.1 p.2 hg
  rw[hB]at dr;injection dr with dr;subst dr
  have gL:(getObj B.b).run P w=.ok (.map es clock) w:=MapKept.run_getObj_map hb
  have go:∀ob,(Builtin.delete_ #[t,t'] o.type #[a.eval x,a.eval k]).run P w=.ok (.tuple #[]) {w with heap:=w.heap.setIfInBounds B.b ob}->(execOp a.eval o).run P w=.ok (.value undef) {w with heap:=w.heap.setIfInBounds B.b ob}:=fun ob h=>by
   simp only[execOp,ho,resolve,Sem.run_bind,Sem.run_pure,Result.andThen_ok,invoke,builtin,Array.map]
   simp[h,undef]
  rcases hF with⟨rfl,rfl⟩|⟨j,en,rfl,he,rfl⟩
  ·have mO:=S.FB (ob:=.map es clock) (r':={p.2 with rows:=dG p.2.rows none}) hg hw hB fun hr jT=>⟨R.sz,R.flat,fun vw=>(by rw[ta]at vw;cases vw),fun m' z7=>?_,fun c hc=>(by rw[ta]at hc;cases hc)⟩
   ·refine⟨undef,_,ι,.inl (go _ ?_),mO.2,mO.1,cu.undef,fun _ _=>rfl⟩
    simp[Builtin.delete_,hu,run_underlying ht,gL,IG,hf,MapKept.run_setObj_map _ hb]
   ·rw[ta]at z7;simp only[Option.some.injEq,BK.map.injEq]at z7;subst z7
    exact⟨(R.map m ta).1,_,_,jT,eW,hlen,fun q cs hq=>by
     obtain⟨en,kv,vv,q1,q2,q3,q4,q5⟩:=hM q cs hq
     exact⟨en,kv,vv,q1,q2,q3,hr _ _ q4,hr _ _ q5⟩⟩
  ·simp only[Nat.zero_add]at hf ⊢
   have gM:j<es.size:=by have:=(List.getElem?_eq_some_iff.1 he).1;simpa using this
   have mO:=S.FB (ob:=.map (es.eraseIdxIfInBounds j) clock) (r':={p.2 with rows:=dG p.2.rows (some j)}) hg hw hB fun hr jT=>⟨R.sz,fun cs dn=>R.flat cs (List.mem_of_mem_eraseIdx dn),fun vw=>(by rw[ta]at vw;cases vw),fun m' z7=>?_,fun c hc=>(by rw[ta]at hc;cases hc)⟩
   ·refine⟨undef,_,ι,.inl (go _ ?_),mO.2,mO.1,cu.undef,fun _ _=>rfl⟩
    simp[Builtin.delete_,hu,run_underlying ht,gL,IG,hf,MapKept.run_setObj_map _ hb]
   ·rw[ta]at z7;simp only[Option.some.injEq,BK.map.injEq]at z7;subst z7
    have he2:∀q,(es.eraseIdxIfInBounds j)[q]? =(es.toList.eraseIdx j)[q]? :=fun q=>by
     unfold Array.eraseIdxIfInBounds
     rw[dif_pos gM,<-Array.getElem?_toList,Array.toList_eraseIdx]
    refine⟨(R.map m ta).1,_,_,jT,by simp[dG,Array.eraseIdxIfInBounds,gM,List.length_eraseIdx,<-eW],⟨fun cs dn=>hlen.1 cs (List.mem_of_mem_eraseIdx dn),Fp hlen.2 gM⟩,fun q cs hq=>?_⟩
    simp only[dG,List.getElem?_eraseIdx]at hq
    split at hq
    ·rename_i dE
     obtain⟨en,kv,vv,q1,q2,q3,q4,q5⟩:=hM q cs hq
     exact⟨en,kv,vv,by rw[he2,List.getElem?_eraseIdx,if_pos dE];simpa using q1,q2,q3,hr _ _ q4,hr _ _ q5⟩
    ·rename_i dE
     obtain⟨en,kv,vv,q1,q2,q3,q4,q5⟩:=hM (q+1) cs hq
     exact⟨en,kv,vv,by rw[he2,List.getElem?_eraseIdx,if_neg dE];simpa using q1,q2,q3,hr _ _ q4,hr _ _ q5⟩
 ·cases hv
end
end Go.Proofs.YtgoelphibofcmaaGreat.V
