/- A small language in which the program's functions are read by value: its values, its operations, its code, and how the program's code is brought into it. -/
import Derived.WalkKit
import Derived.WalkSpells
import Derived.WalkLawsBesides
import Derived.Lib.Hide
import Derived.Great.BuildSlice
import Derived.Conc.LoneCalls
import Derived.MapKept
import Derived.WideKeyRuns
set_option linter.unusedVariables false
set_option linter.unusedSimpArgs false
set_option maxRecDepth 100000
set_option maxHeartbeats 16000000
namespace Go.Proofs.YtphenfakmdknlaaGreat.V
open Go.RowKit
structure Id where
  site:Nat
  bR:Nat
  deriving DecidableEq,Repr
inductive TS where
  |tI|tB|tS
  deriving Repr,DecidableEq
structure MK where
  ka:Bool
  ts:List TS
  deriving Repr,DecidableEq
inductive AV where
  |int (k:IntKind) (n:Int)
  |bool (b:Bool)
  |str (s:ByteArray)
  |cK|iR|iH
  |sl (rows:List (List AV))
  |own (id:Id) (off len:Nat)
  |ptr (id:Id) (i off:Nat)
  |dI (cs:List AV)
  |agg (cs:List AV)
  |im (vs:List AV)
  |fn (f:Nat) (cP:List AV)
  |map (id:Id) (m:MK)
  |iQ
  |tN (f:Nat) (first:List AV)
  |qj (id:Id)
  deriving Inhabited
def AV.undef:AV:=.im []
def AV.cell:AV->Bool
  | .agg _| .im _=>false
  |_=>true
def AV.cells:AV->List AV
  | .agg cs=>cs
  |v=>[v]
inductive K where
  |int (k:IntKind) (n:Int)
  |bool (b:Bool)
  |str (l:List UInt8)
  |cK|iR|iH|iQ
  deriving Repr,DecidableEq
def K.val:K->Value
  | .int k n=>.int k n
  | .bool b=>.bool b
  | .str l=>.string ⟨l.toArray⟩
  | .cK=>.slice none 0 0
  | .iR=>.pointer none
  | .iH=>.nilFunc
  | .iQ=>.map none
def K.av:K->AV
  | .int k n=>.int k n
  | .bool b=>.bool b
  | .str l=>.str ⟨l.toArray⟩
  | .cK=>.cK
  | .iR=>.iR
  | .iH=>.iH
  | .iQ=>.iQ
def D9:Value->Option K
  | .int k n=>some (.int k n)
  | .bool b=>some (.bool b)
  | .string s=>some (.str s.data.toList)
  | .slice none 0 0=>some .cK
  | .pointer none=>some .iR
  | .nilFunc=>some .iH
  | .map none=>some .iQ
  |_=>none
inductive O where
  |t (n:Nat)
  |k (c:K)
  |ka (cs:List K)
  |f (n:Nat)
  deriving Repr,DecidableEq
inductive MQ where
  |new (m:MK)
  |look (m:MK) (ok:Bool) (zero:K)
  |len (m:MK)
  deriving Repr,DecidableEq
inductive MW where
  |set (m:MK)
  |del (m:MK)
  deriving Repr,DecidableEq
inductive fH where
  |dD (x:O)
  |pick (c a b:O)
  |new (zero:List K)
  |box (x:O)
  |build (zero:List K) (parts:List (Nat×Nat×O))
  |jQ (sz len:Nat) (parts:List O)
  |load (agg:Bool) (n:Nat) (a:O)
  |store (n:Nat) (a x:O)
  |HW (x:O)
  |bin (op:BinOp) (k:IntKind) (x y:O)
  |sh (left:Bool) (x y:O)
  |Iu (op:BinOp) (x y:O)
  |Lp (neg:Bool) (t:TS) (x y:O)
  |P6 (neg:Bool) (ts:List TS) (x y:O)
  |N3 (neg Je:Bool) (x:O)
  |P7 (neg:Bool) (x:O)
  |not (x:O)
  |neg (x:O)
  |conv (k:IntKind) (x:O)
  |Ce (x:O)
  |slice (sz:Nat) (x:O) (lo hi:Option O)
  |wU (x:O) (lo hi:Option O)
  |ik (off:Nat) (x:O)
  |field (agg:Bool) (off n:Nat) (x:O)
  |ef (sz:Nat) (x i:O)
  |I7 (len sz:Nat) (x i:O)
  |I9 (x i:O)
  |ew (agg:Bool) (len n:Nat) (x i:O)
  |extract (i:Nat) (x:O)
  |len (x:O)
  |Ji (x:O)
  |append (sz:Nat) (x y:O)
  |copy (sz:Nat) (x y:O)
  |clear (zero:List K) (x:O)
  |Jr (f:Nat) (cP:List O)
  |Js (f:Nat) (first:List O)
  |jJ (zero:List K) (len cap:O)
  |call (f:Nat) (args:List O)
  |qS (x:O) (args:List O)
  |mq (q:MQ) (xs:List O)
  |mw (q:MW) (xs:List O)
  |G2 (x:O)
  |GR (x:O)
  |snd (x y:O)
  |MC (x:O)
  |bad
  deriving Repr,DecidableEq
structure bw where
  dst:Option Nat
  op:fH
  guard:Option (Nat×Bool)
  site:Nat
  hid:List Nat
  deriving Repr,DecidableEq
def q (d:Nat) (op:fH) (s:Nat):bw:=⟨some d,op,none,s,[]⟩
inductive VC where
  |skip
  |eD (draw:Bool) (ops:List bw)
  |seq (a b:VC)
  |cond (c:O) (x y:VC)
  |block (id:Nat) (c:VC)
  |loop (c:VC)
  |exit (id:Nat)
  |ret
  |one (o:bw) (c:VC)
  |both (a b:VC)
  |loc (t s:Nat) (y:O) (c:VC)
  |Lj (ops:List bw)
  deriving Repr,DecidableEq
inductive nO where
  |tmp (t:Nat)
  |cell (agg:Bool) (n:Nat) (t:Nat)
  deriving Repr,DecidableEq
structure xi where
  ntmps:Nat
  uS:Nat
  body:VC
  res:List nO
  deriving Repr,DecidableEq
def fc (P:Program) (f:Nat):Bool:=
  match P.funcs[f]? with
  |some fn=>fn.body.isSome&& !(fn.name== "runtime.NumGoroutine")
  |none=>false
def cO (P:Program):Operand->Option O
  | .tmp t=>some (.t t)
  | .const (.agg cs)=>(cs.toList.mapM D9).map O.ka
  | .const v=>(D9 v).map O.k
  | .global _=>none
  | .func f=>if fc P f then some (.f f)else none
def iT (P:Program) (t:TypeId):Option (List K):=
  match P.info? t with
  |some i=>match i.zero with
    |some v=>if v.cells.size=i.size then v.cells.toList.mapM D9 else none
    |none=>none
  |none=>none
def dS (P:Program) (t:TypeId):Option Nat:=(P.info? t).map (·.size)
def lY (P:Program) (t:TypeId):Option Bool:=
  match P.underlying t with
  |some (.struct _)|some (.array _ _)=>some true
  |some _=>some false
  |none=>none
inductive QF where
  |sc (t:TS)|ag (ts:List TS)
  deriving Repr,DecidableEq
def eS (P:Program) (t:TypeId):Option TS:=
  match P.underlying t with
  |some .bool=>some .tB
  |some (.int _)=>some .tI
  |some .string=>some .tS
  |_=>none
def AF (P:Program) (inner:List Field->Option (List TS)):Nat->List Field->Option (List TS)
  |_,[]=>some []
  |off,f::r=>
    if f.offset=off/\f.name≠ "_" then
      match eS P f.type with
      |some t=>if lY P f.type=some false then(AF P inner (off+1) r).map (t::·)else none
      |none=>match P.underlying f.type with
        |some (.struct fs)=>if !P.stoodInHeld f.type then match inner fs.toList with
          |some ts=>if dS P f.type=some ts.length/\ts≠[]then(AF P inner (off+ts.length) r).map (ts++·)else none
          |none=>none else none
        |_=>none
    else none
def ek (P:Program):Nat->Nat->List Field->Option (List TS)
  |0,_,[]=>some []
  |0,_,_::_=>none
  |d+1,off,fs=>AF P (ek P d 0) off fs
def QP (P:Program) (t:TypeId):Option QF:=
  match eS P t with
  |some s=>some (.sc s)
  |none=>match P.underlying t with
    |some (.struct fs)=>if !P.stoodInHeld t&& !P.eqGuardType P.depth t then(ek P 4 0 fs.toList).map QF.ag else none
    |_=>none
def qf (P:Program) (fs:Array Field):List (Nat×O)->Option (List (Nat×Nat×O))
  |[]=>some []
  |(i,x)::r=>match fs[i]? with
    |some f=>match dS P f.type with
      |some n=>(qf P fs r).map ((f.offset,n,x)::·)
      |none=>none
    |none=>none
def qi (P:Program) (ps:Array (Nat×Operand)):Option (List (Nat×O)):=ps.toList.mapM fun(i,x)=>(cO P x).map (i,·)
def o6 (P:Program):Option Operand->Option (Option O)
  |none=>some none
  |some x=>(cO P x).map some
def qg (P:Program) (neg:Bool) (t:TypeId) (x y:Operand):Option fH:=
  match y with
  | .const (.slice none 0 0)=>match P.underlying t with
    |some (.slice _)=>(cO P x).map (fH.N3 neg false)
    |_=>none
  | .const .nilFunc=>match P.underlying t with
    |some (.func ..)=>(cO P x).map (fH.N3 neg true)
    |_=>none
  | .const (.pointer none)=>match P.underlying t with
    |some (.pointer _)=>(cO P x).map (fH.P7 neg)
    |_=>none
  |_=>match QP P t with
    |some (.sc s)=>do pure (.Lp neg s (<-cO P x) (<-cO P y))
    |some (.ag ts)=>do pure (.P6 neg ts (<-cO P x) (<-cO P y))
    |_=>none
def sf (P:Program) (op:BinOp) (t:TypeId) (x y:Operand):Option fH:=
  match op with
  | .eql=>qg P false t x y
  | .neq=>qg P true t x y
  | .shl=>do pure (.sh true (<-cO P x) (<-cO P y))
  | .shr=>do pure (.sh false (<-cO P x) (<-cO P y))
  |op=>match P.underlying t with
    |some (.int k)=>do pure (.bin op k (<-cO P x) (<-cO P y))
    |some .string=>do pure (.Iu op (<-cO P x) (<-cO P y))
    |_=>none
def qh (P:Program) (t:TypeId):Option (MK×K):=
  match P.underlying t with
  |some (.map k e)=>match lY P e,(P.info? e).bind (·.zero),eS P k,P.underlying k with
    |some false,some zv,some s,_=>(D9 zv).map fun z=>(⟨false,[s]⟩,z)
    |some false,some zv,none,some (.struct fs)=>match ek P 4 0 fs.toList,D9 zv with
      |some ts,some z=>if !P.stoodInHeld k/\fs.toList.all (fun f=>(eS P f.type).isSome)then some (⟨true,ts⟩,z)else none
      |_,_=>none
    |_,_,_,_=>none
  |_=>none
def lL (P:Program) (c:Call):Option fH:=
  match c.callee with
  | .builtin .len=>match c.args.toList,c.argTypes.toList with
    |[x],[t]=>match P.underlying t with
      |some (.slice _)=>(cO P x).map fH.len
      |some .string=>(cO P x).map fH.Ji
      |some (.map _ _)=>match qh P t,cO P x with
        |some (m,_),some x=>some (.mq (.len m) [x])
        |_,_=>none
      |some (.chan _ _)=>(cO P x).map fH.GR
      |_=>none
    |_,_=>none
  | .builtin .append=>match c.args.toList,c.argTypes.toList with
    |[x,y],[t,u]=>match P.underlying t with
      |some (.slice e)=>match dS P e,iT P e,P.info? e with
        |some (sz+1),some _,some i=>if i.bytes<=32768/\t=u then do pure (.append (sz+1) (<-cO P x) (<-cO P y))else none
        |_,_,_=>none
      |_=>none
    |_,_=>none
  | .builtin .clear=>match c.args.toList,c.argTypes.toList with
    |[x],[t]=>match P.underlying t with
      |some (.slice e)=>match dS P e,iT P e with
        |some (_+1),some z=>(cO P x).map (fH.clear z)
        |_,_=>none
      |_=>none
    |_,_=>none
  | .value (.func f)=>if fc P f then(c.args.toList.mapM (cO P)).map (fH.call f)else none
  | .value (.tmp t)=>(c.args.toList.mapM (cO P)).map (fH.qS (.t t))
  | .builtin .delete=>match c.args.toList,c.argTypes.toList with
    |[x,k],[t,_]=>match qh P t,cO P x,cO P k with
      |some (m,_),some x,some k=>some (.mw (.del m) [x,k])
      |_,_,_=>none
    |_,_=>none
  | .builtin .copy=>match c.args.toList,c.argTypes.toList with
    |[x,y],[t,_]=>match P.underlying t with
      |some (.slice e)=>match dS P e with
        |some (sz+1)=>do pure (.copy (sz+1) (<-cO P x) (<-cO P y))
        |_=>none
      |_=>none
    |_,_=>none
  |_=>none
def oS (P:Program) (o:Op):Option fH:=
  match o with
  | .move x| .assign x=>(cO P x).map fH.dD
  | .pick c a b=>do pure (.pick (<-cO P c) (<-cO P a) (<-cO P b))
  | .alloc e=>(iT P e).map fH.new
  | .box _ x=>(cO P x).map fH.box
  | .load t a=>do pure (.load (<-lY P t) (<-dS P t) (<-cO P a))
  | .store t a x=>do pure (.store (<-dS P t) (<-cO P a) (<-cO P x))
  | .nilCheck x=>(cO P x).map fH.HW
  | .binOp op t x y _=>sf P op t x y
  | .unOp .not _ x=>(cO P x).map fH.not
  | .unOp .neg _ x=>(cO P x).map fH.neg
  | .convert s d x=>match P.underlying s,P.underlying d with
    |some (.int _),some (.int k)=>(cO P x).map (fH.conv k)
    |some .string,some .string=>(cO P x).map fH.Ce
    |_,_=>none
  | .slice t x lo hi none=>match P.underlying t with
    |some (.slice e)=>do
      pure (.slice (<-dS P e) (<-cO P x) (<-o6 P lo) (<-o6 P hi))
    |some .string=>do pure (.wU (<-cO P x) (<-o6 P lo) (<-o6 P hi))
    |_=>none
  | .fieldAddr s x i=>match P.underlying s with
    |some (.struct fs)=>match fs[i]? with
      |some f=>match dS P f.type with
        |some (_+1)=>(cO P x).map (fH.ik f.offset)
        |_=>none
      |none=>none
    |_=>none
  | .field s x i=>match P.underlying s with
    |some (.struct fs)=>match fs[i]? with
      |some f=>do pure (.field (<-lY P f.type) f.offset (<-dS P f.type) (<-cO P x))
      |none=>none
    |_=>none
  | .indexAddr t x i=>match P.underlying t with
    |some (.slice e)=>match dS P e with
      |some (m+1)=>do pure (.ef (m+1) (<-cO P x) (<-cO P i))
      |_=>none
    |some (.array len e)=>match dS P e with
      |some (m+1)=>do pure (.I7 len (m+1) (<-cO P x) (<-cO P i))
      |_=>none
    |_=>none
  | .index t x i=>match P.underlying t with
    |some .string=>do pure (.I9 (<-cO P x) (<-cO P i))
    |some (.array len e)=>do pure (.ew (<-lY P e) len (<-dS P e) (<-cO P x) (<-cO P i))
    |_=>none
  | .extract x i=>(cO P x).map (fH.extract i)
  | .build t ps=>match P.underlying t with
    |some (.struct fs)=>
      match iT P t,qi P ps with
      |some z,some l=>
        if fs.all (fun f=>(P.info? f.type).isSome)then(qf P fs l).map (fH.build z)else none
      |_,_=>none
    |some (.array _ e)=>
      match iT P t,qi P ps,dS P e with
      |some z,some l,some n=>some (.build z (l.map fun(i,x)=>(i*n,n,x)))
      |_,_,_=>none
    |_=>none
  | .buildSlice t len ps=>match P.underlying t with
    |some (.slice e)=>match dS P e,iT P e,qi P ps with
      |some (sz+1),some _,some l=>
        if len*(sz+1)<=4096/\l.map (·.1)=List.range len then some (.jQ (sz+1) len (l.map (·.2)))else none
      |_,_,_=>none
    |_=>none
  | .makeFunc (.func f) first cP=>
    if first= #[]/\fc P f then(cP.toList.mapM (cO P)).map (fH.Jr f)else if cP= #[]/\fc P f then(first.toList.mapM (cO P)).map (fH.Js f)else none
  | .makeSlice t l c=>match P.underlying t with
    |some (.slice e)=>match dS P e,iT P e,P.info? e with
      |some (_+1),some z,some i=>if i.bytes<=32768 then do pure (.jJ z (<-cO P l) (<-cO P c))else none
      |_,_,_=>none
    |_=>none
  | .call c=>lL P c
  | .makeChan t n=>match P.underlying t with
    |some (.chan _ e)=>match P.info? e with
      |some i=>if i.bytes<=32768 then(cO P n).map fH.G2 else none
      |none=>none
    |_=>none
  | .send x y=>do pure (.snd (<-cO P x) (<-cO P y))
  | .recv t x false=>match P.underlying t with
    |some (.chan _ e)=>match (P.info? e).bind (·.zero)with
      |some _=>(cO P x).map fH.MC
      |none=>none
    |_=>none
  | .makeMap t none=>match qh P t with
    |some (m,_)=>some (.mq (.new m) [])
    |none=>none
  | .lookup t x k ok=>match qh P t,cO P x,cO P k with
    |some (m,z),some x,some k=>some (.mq (.look m ok z) [x,k])
    |_,_,_=>none
  | .mapUpdate t x k v| .insert t x k v=>match qh P t,cO P x,cO P k,cO P v with
    |some (m,_),some x,some k,some v=>some (.mw (.set m) [x,k,v])
    |_,_,_,_=>none
  | .makeInterface _ _=>some .bad
  | .panic _=>some .bad
  |_=>none
inductive QD where
  |pure|look|make|write
  deriving DecidableEq,Repr
def fH.cls:fH->QD
  | .new _| .box _| .jQ .. | .jJ .. | .mq (.new _) _| .G2 _=>.make
  | .load .. | .ef .. | .slice .. | .call .. | .qS .. | .mq .. | .GR _=>.look
  | .store .. | .append .. | .copy .. | .clear .. | .mw .. | .snd .. | .MC _=>.write
  |_=>.pure
def clash:QD->QD->Bool
  | .pure,_|_,.pure=>false
  | .write,_|_,.write=>true
  |_,_=>false
def iN (ops:Array Oper):Array Nat:=Region.before ops
def oN:fH->Bool:=fun o=>o.cls==.make||o.cls==.write
def fH.kN:fH->Bool
  | .call .. | .qS .. =>true
  |_=>false
def Am (ops:Array Oper) (o:Oper):Option (Option (Nat×Bool)):=
  match o.guard with
  |none=>some none
  |some (i,b)=>match (ops[i]?).bind (·.dst)with
    |some t=>some (some (t,b))
    |none=>none
def kX (P:Program) (ops:Array Oper) (nt site0:Nat) (draw mk:Bool) (bs:Array Nat) (hidden:List (Nat×Bool)) (j:Nat) (o:Oper):Option bw:=do
  let v <-oS P o.op
  let g <-Am ops o
  if (o.dst.all fun d=>decide (d<nt))then
    pure {dst:=o.dst,op:=v,guard:=g,site:=site0+j,hid:=if draw then(hidden.filter fun(i,m)=>m&& !(bs.getD j 0).testBit i&&(i !=j||mk&&v.kN)).map fun(i,_)=>site0+i else[]}
  else none
def allM {α:Type} (f:Nat->Oper->Option α):List Oper->Nat->Option (List α)
  |[],_=>some []
  |o::r,j=>do pure ((<-f j o)::(<-allM f r (j+1)))
def fX:O->List Nat
  | .t n=>[n]
  |_=>[]
def s4:Option O->List Nat
  |some x=>fX x
  |none=>[]
def fH.fM:fH->List Nat
  | .clear _ x| .dD x| .box x| .load _ _ x| .HW x| .N3 _ _ x| .P7 _ x| .not x| .neg x| .conv _ x| .Ce x| .ik _ x| .field _ _ _ x| .extract _ x| .len x| .Ji x| .G2 x| .GR x| .MC x=>fX x
  | .pick c a b=>fX c++fX a++fX b
  | .new _| .bad=>[]
  | .build _ ps=>ps.flatMap fun(_,_,x)=>fX x
  | .jQ _ _ ps=>ps.flatMap fX
  | .store _ a x| .snd a x=>fX a++fX x
  | .bin _ _ x y| .sh _ x y| .Iu _ x y| .Lp _ _ x y| .P6 _ _ x y| .ef _ x y| .I7 _ _ x y| .I9 x y| .ew _ _ _ x y| .append _ x y| .copy _ x y| .jJ _ x y=>fX x++fX y
  | .slice _ x lo hi| .wU x lo hi=>fX x++s4 lo++s4 hi
  | .Jr _ l| .Js _ l| .call _ l| .mq _ l| .mw _ l=>l.flatMap fX
  | .qS x l=>fX x++l.flatMap fX
def bw.fM (v:bw):List Nat:=v.op.fM++(match v.guard with|some (t,_)=>[t]|none=>[])
def qH (x y:bw):Bool:=
  (match x.dst with
   |some d=> !y.fM.contains d&&y.dst !=some d
   |none=>true)&&
  (match y.dst with
   |some d=> !x.fM.contains d
   |none=>true)
def bw.makes (v:bw):Bool:=oN v.op||v.op.kN&&v.hid.contains v.site
def Co (x y:bw):Bool:=
  qH x y&& !clash x.op.cls y.op.cls&&(!x.makes||y.hid.contains x.site)&&(!y.makes||x.hid.contains y.site)&&x.site !=y.site
def Ch (ops:Array Oper):Bool:=ops.toList.zipIdx.all fun(o,j)=>o.after.all fun e=> !Region.binds .any e||decide (e.on<j)
def mA (ops:Array Oper) (vl:List bw) (bs:Array Nat):Bool:=
  Ch ops&&vl.zipIdx.all fun(y,j)=>vl.zipIdx.all fun(x,i)=> !(decide (i<j))||(bs.getD j 0).testBit i||Co x y
def o7 (P:Program) (nt site0:Nat) (ops:Array Oper) (draw mk:Bool):Option (List bw):=
  let bs:=if draw then iN ops else #[]
  let hidden:=if draw then ops.toList.zipIdx.map fun(o,i)=>(i,((oS P o.op).map fun v=>oN v||mk&&v.kN).getD false)else[]
  match allM (kX P ops nt site0 draw mk bs hidden) ops.toList 0 with
  |some vl=>if !draw||mA ops vl bs then some vl else none
  |none=>none
def j5 (v:bw):Bool:= !v.op.kN&&v.op.cls !=.write
def uF (x y:bw):Bool:=qH x y&&x.op.cls==.pure||Co x y&&j5 x&&j5 y
def oE (ops:Array Oper) (vl:List bw) (bs:Array Nat) (listed:Array Bool) (i:Nat):Bool:=
  match vl[i]? with
  |some x=>(List.range ops.size).all fun j=>listed.getD j false||j==i||(bs.getD j 0).testBit i||(match vl[j]? with|some y=>uF x y|none=>false)
  |none=>false
def KK (vl:List bw) (x:bw):Option (Nat×Nat×O):=
  match x.op,x.guard with
  | .append _ (.t t) y,none=>match vl.find? fun v=>v.dst==some t&&v.op.cls==.make with
    |some v=>some (t,v.site,y)
    |none=>none
  |_,_=>none
def Cn (s:Nat) (x y:bw):Bool:=qH x y&&j5 y&&y.hid.contains s&&y.hid.contains x.site&&y.site !=s&&y.site !=x.site
def mC (ops:Array Oper) (vl:List bw) (bs:Array Nat) (listed:Array Bool) (i s:Nat):Bool:=
  match vl[i]? with
  |some x=>(List.range ops.size).all fun j=>listed.getD j false||j==i||(bs.getD j 0).testBit i||(match vl[j]? with|some y=>Cn s x y|none=>false)
  |none=>false
def Mo (ops:Array Oper) (vl:List bw) (bs:Array Nat) (listed:Array Bool) (i:Nat):Option (Nat×Nat×Nat×O×bw):=
  match vl[i]? with
  |some x=>match KK vl x with
    |some (t,s,y)=>if mC ops vl bs listed i s then some (i,t,s,y,x)else none
    |none=>none
  |none=>none
def xK:List VC->Option VC
  |[]=>none
  |[c]=>some c
  |c::r=>(xK r).map (VC.both c)
def tx (ops:Array Oper) (vl:List bw) (bs:Array Nat):Nat->Array Bool->Option VC
  |0,listed=>
    match Region.ready .any ops listed with
    |[]=>some (.eD false [])
    |_::_=>none
  |n+1,listed=>
    match Region.ready .any ops listed with
    |[]=>some (.eD false [])
    |r::rs=>let rdy:=r::rs
      match rdy.find? (oE ops vl bs listed)with
      |some i=>match vl[i]? with
        |some vo=>(tx ops vl bs n (listed.setIfInBounds i true)).map (VC.one vo)
        |none=>none
      |none=>match rdy.findSome? (Mo ops vl bs listed)with
        |some (i,t,s,y,vo)=>(tx ops vl bs n (listed.setIfInBounds i true)).map fun c=>VC.loc t s y (.one vo c)
        |none=>match rdy.mapM fun i=>(vl[i]?).bind fun vo=>(tx ops vl bs n (listed.setIfInBounds i true)).map (VC.one vo)with
          |some l=>xK l
          |none=>none
def KI:Op->Bool
  | .send .. | .recv .. =>true
  |_=>false
def NT (P:Program) (nt site0:Nat) (ops:Array Oper) (draw:Bool) (mode:Nat):Option VC:=
  if draw&&mode==2 then
    match allM (kX P ops nt site0 true false (iN ops) (ops.toList.zipIdx.map fun(o,i)=>(i,((oS P o.op).map oN).getD false))) ops.toList 0 with
    |some vl=>tx ops vl (iN ops) ops.size (Array.replicate ops.size false)
    |none=>none
  else if !draw&&ops.any (fun o=>KI o.op)then(o7 P nt site0 ops false false).map VC.Lj
  else(o7 P nt site0 ops draw (mode==1)).map (VC.eD draw)
def sV (md:List (Nat×Nat)) (id:Nat):Nat:=
  match md with
  |[]=>0
  |(i,m)::r=>if i=id then m else sV r id
def jm (P:Program) (md:List (Nat×Nat)) (nt tT:Nat):Code->Option VC
  | .skip=>some .skip
  | .region id ops draw=>NT P nt ((tT*1000+id)*1000) ops draw (sV md id)
  | .seq a b=>do pure (.seq (<-jm P md nt tT a) (<-jm P md nt tT b))
  | .cond c x y=>do pure (.cond (<-cO P c) (<-jm P md nt tT x) (<-jm P md nt tT y))
  | .block id c=>(jm P md nt tT c).map (VC.block id)
  | .loop c=>(jm P md nt tT c).map VC.loop
  | .exit id=>some (.exit id)
  | .ret=>some .ret
  |_=>none
def Dl (P:Program) (r:ResultVar):Option nO:=
  match r with
  | .tmp t=>some (.tmp t)
  | .cell a t=>do pure (.cell (<-lY P t) (<-dS P t) a)
def tR (P:Program) (f:Nat) (md:List (Nat×Nat)):Option xi:=
  match P.funcs[f]? with
  |some fn=>match fn.body with
    |some c=>do
      let b <-jm P md fn.ntmps f c
      let r <-fn.results.toList.mapM (Dl P)
      if fn.params.size+fn.nfree<=fn.ntmps then pure {ntmps:=fn.ntmps,uS:=fn.params.size+fn.nfree,body:=b,res:=r}else none
    |none=>none
  |none=>none
def lN (P:Program) (f:Nat):Option xi:=tR P f []
theorem ad {P:Prop} (h:P:=by omega):P:=h
theorem cE {P:Prop} (h:P:=by(try dsimp only);omega):P:=h
structure Row where
 w:Bool
 sz:Nat
 rows:List (List AV)
abbrev Rows:=Id->Option Row
structure ar where
 get:Rows
 next:Nat
abbrev Env:=Nat->AV
def upd (env:Env):Option Nat->AV->Env
 |some d,v=>fun t=>if t=d then v else env t
 |none,_=>env
inductive Ex where
 |normal
 |exit (id:Nat)
 |ret
 deriving DecidableEq
def cJ (env:Env):O->AV
 | .t n=>env n
 | .k c=>c.av
 | .ka cs=>.agg (cs.map K.av)
 | .f n=>.fn n []
def bC (g:Rows) (id:Id) (r:Row):Rows:=fun i=>if i=id then some r else g i
def bx (g:Rows) (id:Id):Rows:=fun i=>if i=id then none else g i
def eI:List Nat->Nat->Rows->Rows
 |[],_,g=>g
 |h::t,n,g=>fun id=>if (h::t).contains id.site=true/\id.bR=n then none else g id
def ro (g:Rows):Rows:=fun id=>(g id).map fun r=>{r with w:=false}
def part (agg:Bool) (n:Nat) (cs:List AV):Option AV:=
 if agg then(if n<=cs.length then some (.agg (cs.take n))else none)else cs.head?
def rowAt (g:Rows) (id:Id) (i:Nat):Option (List AV):=(g id).bind (·.rows[i]?)
def ld (g:Rows) (agg:Bool) (n:Nat):AV->Option AV
 | .ptr id i off=>(rowAt g id i).bind fun cs=>part agg n (cs.drop off)
 | .dI cs=>part agg n cs
 |_=>none
def cU:BinOp->IntKind->Int->Int->Option AV
 | .add,k,a,b=>some (.int k (k.wrap (a+b)))
 | .sub,k,a,b=>some (.int k (k.wrap (a-b)))
 | .mul,k,a,b=>some (.int k (k.wrap (a*b)))
 | .quo,k,a,b=>if b=0 then none else some (.int k (k.wrap (a.tdiv b)))
 | .rem,k,a,b=>if b=0 then none else some (.int k (a.tmod b))
 | .lss,_,a,b=>some (.bool (decide (a<b)))
 | .leq,_,a,b=>some (.bool (decide (a<=b)))
 | .gtr,_,a,b=>some (.bool (decide (b<a)))
 | .geq,_,a,b=>some (.bool (decide (b<=a)))
 | .and,k,a,b=>some (.int k (k.wrap (BitVec.ofInt k.bits a&&& BitVec.ofInt k.bits b).toNat))
 | .or,k,a,b=>some (.int k (k.wrap (BitVec.ofInt k.bits a|||BitVec.ofInt k.bits b).toNat))
 | .xor,k,a,b=>some (.int k (k.wrap (BitVec.ofInt k.bits a ^^^ BitVec.ofInt k.bits b).toNat))
 |_,_,_,_=>none
def de (op:BinOp):AV->AV->Option AV
 | .int k a,.int k' b=>if k=k' then cU op k a b else none
 |_,_=>none
def fj (left:Bool):AV->AV->Option AV
 | .int k a,.int _ b=>if b<0 then none else some (.int k (if left then k.wrap (a*2 ^ min b.toNat k.bits)else a.fdiv (2 ^ min b.toNat k.bits)))
 |_,_=>none
def dv:BinOp->ByteArray->ByteArray->Option AV
 | .add,a,b=>if a.size+b.size<=9223372036854775807 then some (.str (a++b))else none
 | .lss,a,b=>some (.bool (Op.bytesLess a.toList b.toList))
 | .leq,a,b=>some (.bool (Op.bytesLess a.toList b.toList||(a.toList==b.toList)))
 | .gtr,a,b=>some (.bool !(Op.bytesLess a.toList b.toList||(a.toList==b.toList)))
 | .geq,a,b=>some (.bool !(Op.bytesLess a.toList b.toList))
 |_,_,_=>none
def cC (op:BinOp):AV->AV->Option AV
 | .str a,.str b=>dv op a b
 |_,_=>none
def eO:TS->AV->AV->Option Bool
 | .tI,.int k a,.int k' b=>if k=k' then some (decide (a=b))else none
 | .tB,.bool a,.bool b=>some (a==b)
 | .tS,.str a,.str b=>some (decide (a=b))
 |_,_,_=>none
def er:List TS->List AV->List AV->Option Bool
 |[],[],[]=>some true
 |t::ts,a::r,b::s=>match eO t a b,er ts r s with
  |some x,some y=>some (x&&y)
  |_,_=>none
 |_,_,_=>none
def cL (neg b:Bool):Bool:=if neg then !b else b
def cw:AV->Option Bool
 | .cK=>some true
 | .own _ _ _=>some false
 | .sl (_::_)=>some false
 |_=>none
def cu:AV->Option Bool
 | .iH=>some true
 | .fn _ _=>some false
 |_=>none
def HO:AV->Option Bool
 | .iR=>some true
 | .ptr .. | .dI _=>some false
 |_=>none
def dm (Je:Bool) (x:AV):Option Bool:=if Je then cu x else cw x
def cZ (len:Nat):Option AV->Option Nat
 |none=>some len
 |some (.int _ n)=>if 0<=n/\n<=len then some n.toNat else none
 |_=>none
def da (h:Nat):Option AV->Option Nat
 |none=>some 0
 |some (.int _ n)=>if 0<=n/\n<=h then some n.toNat else none
 |_=>none
def bl (g:Rows) (sz:Nat) (x:AV) (lo hi:Option AV):Option AV:=
 match x with
 | .cK=>(cZ 0 hi).bind fun h=>(da h lo).map fun _=>.cK
 | .sl rows=>(cZ rows.length hi).bind fun h=>(da h lo).bind fun l=>if ∀cs∈rows,cs.length=sz then some (.sl ((rows.drop l).take (h-l)))else none
 | .own id off len=>(g id).bind fun r=>(cZ len hi).bind fun h=>(da h lo).bind fun l=>if r.sz=sz then some (.own id (off+l) (h-l))else none
 |_=>none
def aI (x:AV) (lo hi:Option AV):Option AV:=
 match x with
 | .str s=>(cZ s.size hi).bind fun h=>(da h lo).map fun l=>.str (s.extract l h)
 |_=>none
def BV (off:Nat):AV->Option AV
 | .ptr id i o=>some (.ptr id i (o+off))
 | .dI cs=>some (.dI (cs.drop off))
 |_=>none
def bj (g:Rows) (sz:Nat):AV->AV->Option AV
 | .sl rows,.int _ n=>if 0<=n then(rows[n.toNat]?).bind fun cs=>if cs.length=sz then some (.dI cs)else none else none
 | .own id off len,.int _ n=>if 0<=n/\n<len then(g id).bind fun r=>if r.sz=sz then some (.ptr id (off+n.toNat) 0)else none else none
 |_,_=>none
def bZ (len sz:Nat):AV->AV->Option AV
 | .ptr id r off,.int _ n=>if 0<=n/\n<len then some (.ptr id r (off+n.toNat*sz))else none
 | .dI cs,.int _ n=>if 0<=n/\n<len then some (.dI (cs.drop (n.toNat*sz)))else none
 |_,_=>none
def ck:AV->AV->Option AV
 | .str s,.int _ n=>if 0<=n then(s[n.toNat]?).map fun b=>.int .u8 b.toNat else none
 |_,_=>none
def cj (agg:Bool) (len n:Nat):AV->AV->Option AV
 | .agg cs,.int _ i=>if 0<=i/\i<len then part agg n (cs.drop (i.toNat*n))else none
 |_,_=>none
def di:AV->Option Nat
 | .cK=>some 0
 | .sl rows=>some rows.length
 | .own _ _ n=>some n
 |_=>none
def dn:AV->Option AV
 | .bool b=>some (.bool !b)
 |_=>none
def dj:AV->Option AV
 | .int k n=>some (.int k (k.wrap (0-n)))
 |_=>none
def bY (k:IntKind):AV->Option AV
 | .int _ n=>some (.int k (k.wrap n))
 |_=>none
def bo:AV->Option AV
 | .str s=>some (.str s)
 |_=>none
def cz:AV->AV->AV->Option AV
 | .bool c,a,b=>some (if c then a else b)
 |_,_,_=>none
def dh:AV->Option AV
 | .ptr id i o=>some (.ptr id i o)
 | .dI cs=>some (.dI cs)
 |_=>none
def bh (agg:Bool) (off n:Nat):AV->Option AV
 | .agg cs=>if off+n<=cs.length then part agg n (cs.drop off)else none
 |_=>none
def au (i:Nat):AV->Option AV
 | .im vs=>vs[i]?
 |_=>none
def cq:AV->Option AV
 | .str s=>some (.int .i64 s.size)
 |_=>none
def rowOf (sz:Nat) (v:AV):Option (List AV):=if v.cells.length=sz/\v.cells.all AV.cell then some v.cells else none
def bW (v:AV):Option (List AV):=if v.cells.all AV.cell then some v.cells else none
def rowsOf (sz:Nat):List AV->Option (List (List AV))
 |[]=>some []
 |v::r=>(rowOf sz v).bind fun c=>(rowsOf sz r).map fun cs=>c::cs
def bJ:List AV->List (Nat×Nat×AV)->Option (List AV)
 |cs,[]=>some cs
 |cs,(off,n,v)::r=>if v.cells.length=n/\off+n<=cs.length/\v.cells.all AV.cell then bJ (cs.take off++v.cells++cs.drop (off+n)) r else none
def cV:Nat:=16777216
def fh (zero:List K):AV->AV->Option (Nat×Row)
 | .int _ l,.int _ c=>if 0<=l/\l<=c/\c<=cV then some (l.toNat,⟨true,zero.length,List.replicate l.toNat (zero.map K.av)⟩)else none
 |_,_=>none
def l6:Nat:=1000000000
def MK.ks (m:MK):Nat:=m.ts.length
def MK.zO (m:MK):Nat:=l6+m.ks
def AV.isAgg:AV->Bool
 | .agg _=>true
 |_=>false
def jY (m:MK) (key:List AV):List (List AV)->Nat->Option (Option Nat)
 |[],_=>some none
 |r::l,i=>match er m.ts key (r.take m.ks)with
  |some true=>some (some i)
  |some false=>jY m key l (i+1)
  |none=>none
def db (g:Rows) (m:MK):AV->Option (Id×Row)
 | .map id m'=>if m'=m then(g id).map fun r=>(id,r)else none
 |_=>none
def jZ (m:MK) (k:AV) (rows:List (List AV)):Option (Option Nat):=if k.isAgg=m.ka/\k.cells.length=m.ks/\k.cells.all AV.cell then jY m k.cells rows 0 else none
def dd (m:MK) (z:K) (rows:List (List AV)):Option Nat->Option AV
 |some i=>(rows[i]?).bind fun cs=>cs[m.ks]?
 |none=>some z.av
def aV (q:MQ) (vs:List AV) (g:Rows) (id:Id):Option (AV×Option Row):=
 match q,vs with
 | .new m,[]=>some (.map id m,some ⟨true,m.zO,[]⟩)
 | .look m ok z,[x,k]=>(db g m x).bind fun p=>(jZ m k p.2.rows).bind fun fi=>(dd m z p.2.rows fi).map fun v=>(if ok then .im [v,.bool fi.isSome]else v,none)
 | .len m,[x]=>(db g m x).map fun p=>(.int .i64 p.2.rows.length,none)
 |_,_=>none
def o9:Nat:=2000000000
def cr:AV->Option Nat
 | .int _ n=>if 0<=n/\n<=1048576 then some n.toNat else none
 |_=>none
def cm (g:Rows):AV->Option AV
 | .qj id=>(g id).map fun r=>.int .i64 r.rows.length
 |_=>none
def dq (g:Rows):AV->AV->Option Rows
 | .qj id,v=>(g id).bind fun r=>if r.w/\o9+r.rows.length<r.sz/\v.cell then some (bC g id {r with rows:=r.rows++[[v]]})else none
 |_,_=>none
def dp (g:Rows):AV->Option (AV×Rows)
 | .qj id=>(g id).bind fun r=>match r.rows with
  |[v]::rest=>if r.w then some (v,bC g id {r with rows:=rest})else none
  |_=>none
 |_=>none
def cY (rows:List (List AV)) (e:List AV):Option Nat->List (List AV)
 |some i=>rows.set i e
 |none=>rows++[e]
def dc (rows:List (List AV)):Option Nat->List (List AV)
 |some i=>rows.eraseIdx i
 |none=>rows
def bc (q:MW) (vs:List AV) (g:Rows):Option Rows:=
 match q,vs with
 | .set m,[x,k,v]=>(db g m x).bind fun p=>(jZ m k p.2.rows).bind fun fi=>if p.2.w/\v.cell/\v.isAgg=false then some (bC g p.1 {p.2 with rows:=cY p.2.rows (k.cells++[v]) fi})else none
 | .del m,[x,k]=>(db g m x).bind fun p=>(jZ m k p.2.rows).bind fun fi=>if p.2.w then some (bC g p.1 {p.2 with rows:=dc p.2.rows fi})else none
 |_,_=>none
def dY (o:fH) (ρ:O->AV) (g:Rows) (id:Id):Option (AV×Option Row):=
 match o with
 | .dD x=>some (ρ x,none)
 | .pick c a b=>(cz (ρ c) (ρ a) (ρ b)).map (·,none)
 | .new zero=>some (.ptr id 0 0,some ⟨true,zero.length,[zero.map K.av]⟩)
 | .box x=>(bW (ρ x)).map fun cs=>(.ptr id 0 0,some ⟨true,cs.length,[cs]⟩)
 | .build zero parts=>(bJ (zero.map K.av) (parts.map fun(o,n,x)=>(o,n,ρ x))).map fun cs=>(.agg cs,none)
 | .jQ sz len parts=>(rowsOf sz (parts.map ρ)).map fun rs=>(.own id 0 len,some ⟨true,sz,rs⟩)
 | .load agg n a=>(ld g agg n (ρ a)).map (·,none)
 | .HW x=>(dh (ρ x)).map (·,none)
 | .bin op _ x y=>(de op (ρ x) (ρ y)).map (·,none)
 | .sh left x y=>(fj left (ρ x) (ρ y)).map (·,none)
 | .Iu op x y=>(cC op (ρ x) (ρ y)).map (·,none)
 | .Lp neg t x y=>(eO t (ρ x) (ρ y)).map fun b=>(.bool (cL neg b),none)
 | .P6 neg ts x y=>match ρ x,ρ y with
  | .agg xs,.agg ys=>(er ts xs ys).map fun b=>(.bool (cL neg b),none)
  |_,_=>none
 | .N3 neg Je x=>(dm Je (ρ x)).map fun b=>(.bool (cL neg b),none)
 | .P7 neg x=>(HO (ρ x)).map fun b=>(.bool (cL neg b),none)
 | .not x=>(dn (ρ x)).map (·,none)
 | .neg x=>(dj (ρ x)).map (·,none)
 | .conv k x=>(bY k (ρ x)).map (·,none)
 | .Ce x=>(bo (ρ x)).map (·,none)
 | .slice sz x lo hi=>(bl g sz (ρ x) (lo.map ρ) (hi.map ρ)).map (·,none)
 | .wU x lo hi=>(aI (ρ x) (lo.map ρ) (hi.map ρ)).map (·,none)
 | .ik off x=>(BV off (ρ x)).map (·,none)
 | .field agg off n x=>(bh agg off n (ρ x)).map (·,none)
 | .ef sz x i=>(bj g sz (ρ x) (ρ i)).map (·,none)
 | .I7 len sz x i=>(bZ len sz (ρ x) (ρ i)).map (·,none)
 | .I9 x i=>(ck (ρ x) (ρ i)).map (·,none)
 | .ew agg len n x i=>(cj agg len n (ρ x) (ρ i)).map (·,none)
 | .extract i x=>(au i (ρ x)).map (·,none)
 | .len x=>(di (ρ x)).map fun(n:Nat)=>(AV.int .i64 (n:Int),none)
 | .Ji x=>(cq (ρ x)).map (·,none)
 | .Jr f cP=>some (.fn f (cP.map ρ),none)
 | .Js f first=>some (.tN f (first.map ρ),none)
 | .jJ zero l c=>(fh zero (ρ l) (ρ c)).map fun(n,r)=>(.own id 0 n,some r)
 | .mq q xs=>aV q (xs.map ρ) g id
 | .G2 x=>(cr (ρ x)).map fun n=>(.qj id,some ⟨true,o9+n,[]⟩)
 | .GR x=>(cm g (ρ x)).map (·,none)
 |_=>none
def aT (g:Rows):AV->Option (List (List AV))
 | .cK=>some []
 | .sl rows=>some rows
 | .own id off len=>(g id).bind fun r=>if off+len<=r.rows.length then some ((r.rows.drop off).take len)else none
 |_=>none
def bV (cs:List AV) (off:Nat) (xs:List AV):List AV:=cs.take off++xs++cs.drop (off+xs.length)
def bm (g:Rows) (n:Nat) (v:AV):AV->Option Rows
 | .ptr id i off=>(g id).bind fun r=>(r.rows[i]?).bind fun cs=>
  if r.w/\v.cells.length=n/\v.cells.all AV.cell/\off+n<=cs.length then some (bC g id {r with rows:=r.rows.set i (bV cs off v.cells)})else none
 |_=>none
def aH (g:Rows) (id:Id) (sz:Nat) (x:AV) (ys:List (List AV)):Option (AV×Rows):=
 match x with
 | .cK=>match ys with
  |[]=>some (.cK,g)
  |y::r=>if (y::r).length<=cV/\(y::r).all (fun c=>c.length==sz&&c.all AV.cell)then some (.own id 0 (y::r).length,bC g id ⟨true,sz,y::r⟩)else none
 | .own i 0 len=>(g i).bind fun r=>
  if r.w/\r.sz=sz/\len=r.rows.length/\len+ys.length<=cV/\ys.all (fun c=>c.length==sz&&c.all AV.cell)then some (.own id 0 (len+ys.length),bC (bx g i) id ⟨true,sz,r.rows++ys⟩)else none
 |_=>none
def C0 (g:Rows) (sz:Nat) (x:AV) (ys:List (List AV)):Option (AV×Rows):=
 match x with
 | .own i off len=>(g i).bind fun r=>
  if r.w/\r.sz=sz/\off+len<=r.rows.length/\ys.all (fun c=>c.length==sz&&c.all AV.cell)then
   some (.int .i64 (min ys.length len:Nat),bC g i {r with rows:=r.rows.take off++ys.take (min ys.length len)++r.rows.drop (off+min ys.length len)})else none
 |_=>none
def bf (g:Rows) (zero:List K) (x:AV):Option Rows:=
 match x with
 | .cK=>some g
 | .own i off len=>(g i).bind fun r=>
  if r.w/\r.sz=zero.length/\off+len<=r.rows.length then
   some (bC g i {r with rows:=r.rows.take off++List.replicate len (zero.map K.av)++r.rows.drop (off+len)})else none
 |_=>none
def eJ (o:fH) (ρ:O->AV) (g:Rows) (id:Id):Option (AV×Rows):=
 match o with
 | .store n a x=>(bm g n (ρ x) (ρ a)).map fun g'=>(.undef,g')
 | .append sz x y=>(aT g (ρ y)).bind fun ys=>aH g id sz (ρ x) ys
 | .copy sz x y=>(aT g (ρ y)).bind fun ys=>C0 g sz (ρ x) ys
 | .clear zero x=>(bf g zero (ρ x)).map fun g'=>(.undef,g')
 | .mw q xs=>(bc q (xs.map ρ) g).map fun g'=>(.undef,g')
 |_=>none
def sg:AV->List AV->Option (Nat×List AV)
 | .fn f cP,l=>some (f,l++cP)
 | .tN f first,l=>some (f,first++l)
 |_,_=>none
abbrev fb:=Nat->List AV->ar->(AV->ar->Prop)->Prop
mutual
def fz (g:Rows):Nat->AV->Option AV
 |0,_=>none
 |n+1,a=>match a with
  | .own id off len=>match g id with
   |some r=>if r.w then(if off+len<=r.rows.length then(dK g n ((r.rows.drop off).take len)).map AV.sl else none)else none
   |none=>none
  | .ptr id i off=>match g id with
   |some r=>if r.w then(match r.rows[i]? with
    |some cs=>(cR g n (cs.drop off)).map AV.dI
    |none=>none)else none
   |none=>none
  | .agg cs=>(cR g n cs).map AV.agg
  | .im vs=>(cR g n vs).map AV.im
  | .fn f cP=>if cP.all AV.cell then(cR g n cP).map (AV.fn f)else none
  | .map _ _| .tN _ _| .qj _=>none
  |v=>some v
 termination_by n _=>(n,0)
def cR (g:Rows):Nat->List AV->Option (List AV)
 |n,[]=>some []
 |n,a::r=>match fz g n a with
  |some b=>(cR g n r).map (b::·)
  |none=>none
 termination_by n l=>(n,l.length+1)
def dK (g:Rows):Nat->List (List AV)->Option (List (List AV))
 |n,[]=>some []
 |n,c::r=>match cR g n c with
  |some b=>(dK g n r).map (b::·)
  |none=>none
 termination_by n l=>(n,(l.map (fun c=>c.length+2)).sum+1)
 decreasing_by all_goals simp_wf;try omega
end
mutual
def fu (g:Rows):Nat->AV->Option AV
 |0,_=>none
 |n+1,a=>match a with
  | .own id off len=>match g id with
   |some r=>if r.w then(if off+len<=r.rows.length then(fx g n ((r.rows.drop off).take len)).map AV.sl else none)else none
   |none=>none
  | .ptr id i off=>match g id with
   |some r=>if r.w then(match r.rows[i]? with
    |some cs=>(dM g n (cs.drop off)).map AV.dI
    |none=>none)else none
   |none=>none
  | .agg cs=>(dM g n cs).map AV.agg
  | .im vs=>(dM g n vs).map AV.im
  | .int k m=>some (.int k m)
  | .bool b=>some (.bool b)
  | .str s=>some (.str s)
  | .cK=>some .cK
  | .iR=>some .iR
  | .iH=>some .iH
  | .iQ=>some .iQ
  |_=>none
 termination_by n _=>(n,0)
def dM (g:Rows):Nat->List AV->Option (List AV)
 |n,[]=>some []
 |n,a::r=>match fu g n a with
  |some b=>(dM g n r).map (b::·)
  |none=>none
 termination_by n l=>(n,l.length+1)
def fx (g:Rows):Nat->List (List AV)->Option (List (List AV))
 |n,[]=>some []
 |n,c::r=>match dM g n c with
  |some b=>(fx g n r).map (b::·)
  |none=>none
 termination_by n l=>(n,(l.map (fun c=>c.length+2)).sum+1)
 decreasing_by all_goals simp_wf;try omega
end
def dG (g:Rows):Rows:=fun id=>(g id).map fun r=>{r with w:=true}
def PC (X:fb) (f:Nat) (args:List AV) (σ:ar) (K:AV->Prop):Prop:=
 X f args ⟨ro σ.get,σ.next⟩ fun r σ'=>∃r',fz σ'.get 6 r=some r'/\K r'
def PCv (X:fb) (f:Nat) (args:List AV) (σ:ar) (K:AV->Prop):Prop:=
 ∃eA,cR (dG σ.get) 6 args=some eA/\X f eA ⟨fun _=>none,σ.next⟩ fun r σ'=>∃r',fu σ'.get 6 r=some r'/\K r'
def e8 (X:fb) (f:Nat) (args:List AV) (σ:ar) (K:AV->Prop):Prop:=PC X f args σ K∨PCv X f args σ K
def ax (g:Option (Nat×Bool)) (env:Env):Bool:=
 match g with
 |none=>true
 |some (t,b)=>match env t with
  | .bool c=>c==b
  |_=>false
def AV.plain:AV->Bool
 | .int .. | .bool _| .str _| .cK| .iR| .iH| .iQ=>true
 |_=>false
def CM (X:fb) (f:Nat) (args:List AV) (σ:ar) (sz:Nat) (rows:List (List AV)):Prop:=
 (∀c∈rows,∀a∈c,a.plain=true)/\∃eA,cR (dG σ.get) 6 args=some eA/\X f eA ⟨fun _=>none,σ.next⟩ fun r σ'=>∃id,r=.own id 0 rows.length/\σ'.get id=some ⟨true,sz,rows⟩
def bQ (X:fb) (draw:Bool) (hid:List Nat) (site:Nat) (f:Nat) (args:List AV) (σ:ar) (next:AV->ar->Prop):Prop:=
 (∃r,e8 X f args ⟨eI hid σ.next σ.get,σ.next+1⟩ (fun r'=>r'=r)/\next r σ)∨
 (draw=false/\X f args ⟨σ.get,σ.next+1⟩ next)∨
 (hid.contains site=true/\∃sz rows,CM X f args ⟨eI hid σ.next σ.get,σ.next+1⟩ sz rows/\next (.own ⟨site,σ.next⟩ 0 rows.length) ⟨bC σ.get ⟨site,σ.next⟩ ⟨true,sz,rows⟩,σ.next⟩)
def eB (X:fb) (draw:Bool) (o:bw) (env:Env) (σ:ar) (next:AV->ar->Prop):Prop:=
 match o.op with
 | .call f args=>bQ X draw o.hid o.site f (args.map (cJ env)) σ next
 | .qS x args=>match cJ env x with
  | .fn f cP=>bQ X draw o.hid o.site f (args.map (cJ env)++cP) σ next
  | .tN f first=>bQ X draw o.hid o.site f (first++args.map (cJ env)) σ next
  |_=>False
 | .store .. | .append .. | .copy .. | .clear .. | .mw .. =>match eJ o.op (cJ env) σ.get ⟨o.site,σ.next⟩with
  |some (v,g)=>next v ⟨g,σ.next⟩
  |none=>False
 |_=>match dY o.op (cJ env) (eI o.hid σ.next σ.get) ⟨o.site,σ.next⟩with
  |some (v,some r)=>next v ⟨bC σ.get ⟨o.site,σ.next⟩ r,σ.next⟩
  |some (v,none)=>next v σ
  |none=>False
def wpOps (X:fb) (draw:Bool):List bw->(Env->ar->Prop)->Env->ar->Prop
 |[],K,env,σ=>K env ⟨σ.get,σ.next+1⟩
 |o::r,K,env,σ=>
  if ax o.guard env then eB X draw o env σ fun v σ'=>wpOps X draw r K (upd env o.dst v) σ'
  else wpOps X draw r K (upd env o.dst .undef) σ
def bG:List bw->(Env->ar->Prop)->Env->ar->Prop
 |[],K,env,σ=>K env ⟨σ.get,σ.next+1⟩
 |o::r,K,env,σ=>o.guard=none/\match o.op with
  | .snd x y=>match dq σ.get (cJ env x) (cJ env y)with
   |some g=>bG r K (upd env o.dst .undef) ⟨g,σ.next⟩
   |none=>False
  | .MC x=>match dp σ.get (cJ env x)with
   |some (v,g)=>bG r K (upd env o.dst v) ⟨g,σ.next⟩
   |none=>False
  |op=>match dY op (cJ env) σ.get ⟨o.site,σ.next⟩with
   |some (v,none)=>bG r K (upd env o.dst v) σ
   |_=>False
def cS (next:Env->ar->Prop) (Q:Ex->Env->ar->Prop):Ex->Env->ar->Prop
 | .normal=>next
 |e=>Q e
def aQ (id:Nat) (Q:Ex->Env->ar->Prop):Ex->Env->ar->Prop
 | .exit jW=>if jW=id then Q .normal else Q (.exit jW)
 |e=>Q e
def CK (W:(Ex->Env->ar->Prop)->Env->ar->Prop) (Q:Ex->Env->ar->Prop):Nat->Env->ar->Prop
 |0=>fun _ _=>False
 |n+1=>W (cS (CK W Q n) Q)
def Jj (t s:Nat) (y:O) (env:Env) (n:Nat):Prop:=(∃len,env t=.own ⟨s,n⟩ 0 len)/\∀id o l,cJ env y=.own id o l->id.bR≠n
def dJ (X:fb):VC->(Ex->Env->ar->Prop)->Env->ar->Prop
 | .skip,Q=>Q .normal
 | .eD draw ops,Q=>wpOps X draw ops (Q .normal)
 | .seq a b,Q=>dJ X a (cS (dJ X b Q) Q)
 | .cond c x y,Q=>fun env σ=>match cJ env c with
  | .bool b=>if b then dJ X x Q env σ else dJ X y Q env σ
  |_=>False
 | .block id c,Q=>dJ X c (aQ id Q)
 | .loop c,Q=>fun env σ=>∃n,CK (dJ X c) Q n env σ
 | .exit id,Q=>Q (.exit id)
 | .ret,Q=>Q .ret
 | .one o c,Q=>fun env σ=>if ax o.guard env then eB X false o env σ fun v σ'=>dJ X c Q (upd env o.dst v) σ' else dJ X c Q (upd env o.dst .undef) σ
 | .both a b,Q=>fun env σ=>dJ X a Q env σ/\dJ X b Q env σ
 | .loc t s y c,Q=>fun env σ=>Jj t s y env σ.next/\dJ X c Q env σ
 | .Lj ops,Q=>bG ops (Q .normal)
def iq (env:Env) (g:Rows):nO->Option AV
 | .tmp t=>some (env t)
 | .cell agg n t=>ld g agg n (env t)
def fe (env:Env) (g:Rows):List nO->Option (List AV)
 |[]=>some []
 |r::l=>(iq env g r).bind fun v=>(fe env g l).map (v::·)
def eH:List AV->AV
 |[v]=>v
 |l=>.im l
def bD (args:List AV):Env:=fun t=>args.getD t .undef
def kr (res:List nO) (K:AV->ar->Prop):Ex->Env->ar->Prop
 | .exit _,_,_=>False
 |_,env,σ=>∃vs,fe env σ.get res=some vs/\K (eH vs) σ
inductive jk (P:Program) (w:World) (D:Nat->Prop):AV->Value->Prop
 |int (k n):jk P w D (.int k n) (.int k n)
 |bool (b):jk P w D (.bool b) (.bool b)
 |str (s):jk P w D (.str s) (.string s)
 |cK:jk P w D .cK (.slice none 0 0)
 |iR:jk P w D .iR (.pointer none)
 |iH:jk P w D .iH .nilFunc
 |zP (a c):c<=maxLen->jk P w D (.sl []) (.slice a 0 c)
 |sl (rows b o n c sz) (vs:Nat->Nat->Value):rows.length=n->n<=c->c<=maxLen->D b->(∀cs∈rows,cs.length=sz)->(∀cs∈rows,∀a∈cs,a.cell=true)->
   (∀i j,i<n->j<sz->w.cell? ⟨b,o+(i*sz+j),none⟩=some (vs i j))->
   (∀i j cs a,rows[i]? =some cs->cs[j]? =some a->jk P w D a (vs i j))->jk P w D (.sl rows) (.slice (some ⟨b,o,none⟩) n c)
 |dI (cs b o) (vs:Nat->Value):D b->(∀a∈cs,a.cell=true)->(∀j,j<cs.length->w.cell? ⟨b,o+j,none⟩=some (vs j))->
   (∀j a,cs[j]? =some a->jk P w D a (vs j))->jk P w D (.dI cs) (.pointer (some ⟨b,o,none⟩))
 |agg (cs) (vs:Array Value) (f:Nat->Value):vs.size=cs.length->(∀a∈cs,a.cell=true)->(∀j,j<cs.length->vs[j]? =some (f j))->(∀j a,cs[j]? =some a->jk P w D a (f j))->jk P w D (.agg cs) (.agg vs)
 |fn (f cP) (vs:Array Value) (g:Nat->Value):fc P f=true->vs.size=cP.length->(∀j,j<cP.length->vs[j]? =some (g j))->(∀j a,cP[j]? =some a->jk P w D a (g j))->jk P w D (.fn f cP) (.func (.func f) #[] vs)
 |iQ:jk P w D .iQ (.map none)
inductive BK where
 |map (m:MK)
 |chan (cap:Nat)
structure qM where
 b:Nat
 sz:Nat
 C:Nat
 k:Option BK
abbrev Names:=Id->Option qM
inductive cQ (P:Program) (w:World) (D:Nat->Prop) (ι:Names):AV->Value->Prop
 |ez (a v):jk P w D a v->cQ P w D ι a v
 |own (id off len o cap B):ι id=some B->B.k=none->len<=cap->(cap=0∨o=off*B.sz)->(off+cap)*B.sz<=B.C->cap<=maxLen->cQ P w D ι (.own id off len) (.slice (some ⟨B.b,o,none⟩) len cap)
 |ptr (id i off B):ι id=some B->B.k=none->cQ P w D ι (.ptr id i off) (.pointer (some ⟨B.b,i*B.sz+off,none⟩))
 |agg (cs) (vs:Array Value) (f:Nat->Value):vs.size=cs.length->(∀a∈cs,a.cell=true)->(∀j,j<cs.length->vs[j]? =some (f j))->(∀j a,cs[j]? =some a->cQ P w D ι a (f j))->cQ P w D ι (.agg cs) (.agg vs)
 |im (cs) (vs:Array Value) (f:Nat->Value):vs.size=cs.length->(∀j,j<cs.length->vs[j]? =some (f j))->(∀j a,cs[j]? =some a->cQ P w D ι a (f j))->cQ P w D ι (.im cs) (.tuple vs)
 |fn (f cP) (vs:Array Value) (g:Nat->Value):fc P f=true->vs.size=cP.length->(∀j,j<cP.length->vs[j]? =some (g j))->(∀j a,cP[j]? =some a->cQ P w D ι a (g j))->cQ P w D ι (.fn f cP) (.func (.func f) #[] vs)
 |qj (id c B):ι id=some B->B.k=some (.chan c)->cQ P w D ι (.qj id) (.chan (some B.b))
 |map (id m B):ι id=some B->B.k=some (.map m)->cQ P w D ι (.map id m) (.map (some B.b))
 |tN (f cP) (vs:Array Value) (g:Nat->Value):fc P f=true->vs.size=cP.length->(∀j,j<cP.length->vs[j]? =some (g j))->(∀j a,cP[j]? =some a->cQ P w D ι a (g j))->cQ P w D ι (.tN f cP) (.func (.func f) vs #[])
variable {P:Program} {w w':World} {D D':Nat->Prop} {ι ι':Names}
theorem jk.frame (hD:∀b,D b->w'.heap[b]? =w.heap[b]?) (hs:∀b,D b->D' b) {a:AV} {v:Value} (h:jk P w D a v):jk P w' D' a v:=by
 induction h with
 |int k n=>exact .int k n
 |bool b=>exact .bool b
 |str s=>exact .str s
 |cK=>exact .cK
 |iR=>exact .iR
 |iH=>exact .iH
 |iQ=>exact .iQ
 |zP a c h=>exact .zP a c h
 |sl rows b o n c sz vs h1 h2 h3 h4 h5 h5' h6 _ ih=>exact .sl rows b o n c sz vs h1 h2 h3 (hs b h4) h5 h5' (fun i j hi hj=>(World.cell?_of_block (hD b h4)).trans (h6 i j hi hj)) ih
 |dI cs b o vs h1 IF h2 _ ih=>exact .dI cs b o vs (hs b h1) IF (fun j hj=>(World.cell?_of_block (hD b h1)).trans (h2 j hj)) ih
 |agg cs vs f h1 h2 h3 _ ih=>exact .agg cs vs f h1 h2 h3 ih
 |fn f cP vs g h1 h2 h3 _ ih=>exact .fn f cP vs g h1 h2 h3 ih
theorem cQ.frame (hD:∀b,D b->w'.heap[b]? =w.heap[b]?) (hs:∀b,D b->D' b) (hι:∀id B,ι id=some B->ι' id=some B) {a:AV} {v:Value} (h:cQ P w D ι a v):cQ P w' D' ι' a v:=by
 induction h with
 |ez a v h=>exact .ez a v (h.frame hD hs)
 |map id m B h1 h2=>exact .map id m B (hι _ _ h1) h2
 |qj id c B h1 h2=>exact .qj id c B (hι _ _ h1) h2
 |own id off len o cap B h1 h2 h3 h4 h5 h6=>exact .own id off len o cap B (hι _ _ h1) h2 h3 h4 h5 h6
 |ptr id i off B h1 h2=>exact .ptr id i off B (hι _ _ h1) h2
 |agg cs vs f h1 h2 h3 _ ih=>exact .agg cs vs f h1 h2 h3 ih
 |im cs vs f h1 h2 _ ih=>exact .im cs vs f h1 h2 ih
 |fn f cP vs g h1 h2 h3 _ ih=>exact .fn f cP vs g h1 h2 h3 ih
 |tN f cP vs g h1 h2 h3 _ ih=>exact .tN f cP vs g h1 h2 h3 ih
theorem cQ.undef:cQ P w D ι .undef Go.undef:=.im [] #[] (fun _=>Go.undef) rfl (fun j hj=>by simp at hj) (fun j a h=>by simp at h)
theorem ta (c:K):cQ P w D ι c.av c.val:=by
 cases c with
 |int k n=>exact .ez _ _ (.int k n)
 |bool b=>exact .ez _ _ (.bool b)
 |str l=>exact .ez _ _ (.str _)
 |cK=>exact .ez _ _ .cK
 |iR=>exact .ez _ _ .iR
 |iH=>exact .ez _ _ .iH
 |iQ=>exact .ez _ _ .iQ
theorem K.lk (c:K):c.av.cell=true:=by cases c<;>rfl
theorem wC {v:Value} {c:K} (h:D9 v=some c):v=c.val:=by
 unfold D9 at h
 split at h<;>simp at h<;>subst h<;>rfl
theorem cQ.xQ {a:AV} {v:Value} (h:cQ P w D ι a v) (hc:a.cell=true):v.cells= #[v]/\(∀vs,v≠.agg vs)/\(∀vs,v≠.tuple vs):=by
 cases h with
 |ez a v h=>cases h<;>simp_all [AV.cell,Value.cells]
 |own=>simp[Value.cells]
 |map=>simp[Value.cells]
 |qj=>simp[Value.cells]
 |ptr=>simp[Value.cells]
 |agg=>simp[AV.cell]at hc
 |im=>simp[AV.cell]at hc
 |fn=>simp[Value.cells]
 |tN=>simp[Value.cells]
theorem cQ.cells {a:AV} {v:Value} (h:cQ P w D ι a v) (ha:a.cells.all AV.cell=true):v.cells.size=a.cells.length/\∃f:Nat->Value,(∀j,j<a.cells.length->v.cells[j]? =some (f j))/\∀j x,a.cells[j]? =some x->cQ P w D ι x (f j):=by
 have one:∀(a:AV) (v:Value),a.cell=true->a.cells=[a]->cQ P w D ι a v->v.cells.size=a.cells.length/\∃f:Nat->Value,(∀j,j<a.cells.length->v.cells[j]? =some (f j))/\∀j x,a.cells[j]? =some x->cQ P w D ι x (f j):=by
  intro a v hc dx h
  obtain⟨h1,_,_⟩:=h.xQ hc
  rw[h1,dx]
  refine⟨rfl,fun _=>v,fun j hj=>?_,fun j x hx=>?_⟩
  ·have:j=0:=by simp at hj;omega
   subst this;rfl
  ·cases j with
   |zero=>simp at hx;subst hx;exact h
   |succ j=>simp at hx
 cases h with
 |ez a v h=>
  cases h with
  |agg cs vs f h1 h2 h3 h4=>exact⟨h1,f,h3,fun j x hx=>.ez _ _ (h4 j x hx)⟩
  |_=>exact one _ _ rfl rfl (.ez _ _ (by constructor<;>assumption))
 |own id off len o cap B h1 h2 h3 h4 h5 h6=>exact one _ _ rfl rfl (.own id off len o cap B h1 h2 h3 h4 h5 h6)
 |ptr id i off B h1 h2=>exact one _ _ rfl rfl (.ptr id i off B h1 h2)
 |map id m B h1 h2=>exact one _ _ rfl rfl (.map id m B h1 h2)
 |qj id c B h1 h2=>exact one _ _ rfl rfl (.qj id c B h1 h2)
 |agg cs vs f h1 h2 h3 h4=>exact⟨h1,f,h3,h4⟩
 |im cs vs f h1 h2 h3=>simp[AV.cells,AV.cell]at ha
 |fn f cP vs g h1 h2 h3 h4=>exact one _ _ rfl rfl (.fn f cP vs g h1 h2 h3 h4)
 |tN f cP vs g h1 h2 h3 h4=>exact one _ _ rfl rfl (.tN f cP vs g h1 h2 h3 h4)
structure kC (P:Program) (w:World) (D:Nat->Prop) (ι:Names) (B:qM) (r:Row):Prop where
 sz:B.sz=r.sz
 vH:∃cells T,w.heap[B.b]? =some (.cells cells T (0,0))/\cells.size=B.C
 fits:r.rows.length*r.sz<=B.C
 len:∀cs∈r.rows,cs.length=r.sz
 flat:∀cs∈r.rows,∀a∈cs,a.cell=true
 at_:∀i j cs a,r.rows[i]? =some cs->cs[j]? =some a->∃v,w.cell? ⟨B.b,i*r.sz+j,none⟩=some v/\cQ P w D ι a v
def K6 (es:Array MapEntry) (clock:Nat):Prop:=(∀x∈es.toList,x.born<clock)/\(es.toList.map (·.born)).Nodup
def Kb (P:Program) (w:World) (D:Nat->Prop) (ι:Names) (B:qM) (m:MK) (r:Row):Prop:=
 ∃(es:Array MapEntry) (clock:Nat),w.heap[B.b]? =some (.map es clock)/\es.size=r.rows.length/\((∀cs∈r.rows,cs.length=m.ks+1)/\K6 es clock)/\
  ∀(i:Nat) (cs:List AV),r.rows[i]? =some cs->∃(e:MapEntry) (kv vv:AV),es[i]? =some e/\part m.ka m.ks cs=some kv/\cs[m.ks]? =some vv/\cQ P w D ι kv e.key/\cQ P w D ι vv e.val
def Ft (P:Program) (w:World) (D:Nat->Prop) (ι:Names) (B:qM) (c:Nat) (r:Row):Prop:=
 ∃(buf:Array Value) (s q:Nat),w.heap[B.b]? =some (.chan c buf false s q false)/\buf.size=r.rows.length/\
  ∀(i:Nat) (cs:List AV),r.rows[i]? =some cs->∃(a:AV) (u:Value),cs=[a]/\buf[i]? =some u/\cQ P w D ι a u
structure gL (P:Program) (w:World) (D:Nat->Prop) (ι:Names) (B:qM) (r:Row):Prop where
 sz:B.sz=r.sz
 flat:∀cs∈r.rows,∀a∈cs,a.cell=true
 row:B.k=none->kC P w D ι B r
 map:∀m,B.k=some (.map m)->r.sz=m.zO/\Kb P w D ι B m r
 chan:∀c,B.k=some (.chan c)->r.sz=o9+c/\Ft P w D ι B c r
theorem kC.obj {B:qM} {r:Row} (R:kC P w D ι B r) (h:B.k=none):gL P w D ι B r:=⟨R.sz,R.flat,fun _=>R,fun m hm=>(by rw[h]at hm;cases hm),fun m hm=>by rw[h]at hm;cases hm⟩
theorem gL.flag {B:qM} {r:Row} (R:gL P w D ι B r) (b:Bool):gL P w D ι B {r with w:=b}:=⟨R.sz,R.flat,fun h=>⟨R.sz,(R.row h).vH,(R.row h).fits,(R.row h).len,R.flat,(R.row h).at_⟩,R.map,R.chan⟩
theorem gL.Jv {B:qM} {r:Row} (R:gL P w D ι B r) {c:Array Value} {T:TypeId} {z:Nat×Nat} (h:w.heap[B.b]? =some (.cells c T z)):B.k=none:=by
 cases hk:B.k with
 |none=>rfl
 |some m=>
  cases m with
  |map m=>obtain⟨_,es,c,h3,_⟩:=R.map m hk;rw[h]at h3;cases h3
  |chan c=>obtain⟨_,buf,s,q,h3,_⟩:=R.chan c hk;rw[h]at h3;cases h3
theorem gL.lt {B:qM} {r:Row} (R:gL P w D ι B r):B.b<w.heap.size:=by
 cases h:B.k with
 |none=>
  obtain⟨c,T,h3,_⟩:=(R.row h).vH
  exact(Array.getElem?_eq_some_iff.1 h3).1
 |some m=>
  cases m with
  |map m=>obtain⟨_,es,c,h3,_⟩:=R.map m h;exact(Array.getElem?_eq_some_iff.1 h3).1
  |chan c=>obtain⟨_,buf,s,q,h3,_⟩:=R.chan c h;exact(Array.getElem?_eq_some_iff.1 h3).1
structure fN (P:Program) (hs:Nat) (D:Nat->Prop) (ι:Names) (g:Rows) (w:World):Prop where
 lo:hs<=w.heap.size
 dead:∀b,D b->b<w.heap.size
 row:∀id r,g id=some r->∃B,ι id=some B/\gL P w D ι B r/\(r.w=true->hs<=B.b)/\(r.w=true->¬D B.b)
 inj:∀id jW r r' B B',g id=some r->g jW=some r'->r.w=true->ι id=some B->ι jW=some B'->B.b=B'.b->id=jW
def Used (ι:Names) (n:Nat) (U:Nat->Prop):Prop:=∀id,ι id≠none->id.bR<n∨(id.bR=n/\U id.site)
structure Step (hs:Nat) (D:Nat->Prop) (ι:Names) (w:World) (D':Nat->Prop) (ι':Names) (w':World):Prop where
 below:Below hs w w'
 qv:∀b,D b->w'.heap[b]? =w.heap[b]?
 dead:∀b,D b->D' b
 names:∀id B,ι id=some B->ι' id=some B
 new:∀b,D' b->D b∨hs<=b
theorem Step.refl (hs:Nat) (D:Nat->Prop) (ι:Names) (w:World):Step hs D ι w D ι w:=⟨Below.refl _ _,fun _ _=>rfl,fun _ h=>h,fun _ _ h=>h,fun _ h=>.inl h⟩
theorem Step.trans {hs:Nat} {D D' D'':Nat->Prop} {ι ι' P3:Names} {w w' Ib:World} (h:Step hs D ι w D' ι' w') (k:Step hs D' ι' w' D'' P3 Ib):Step hs D ι w D'' P3 Ib:=
 ⟨h.below.trans k.below,fun b hb=>(k.qv b (h.dead b hb)).trans (h.qv b hb),fun b hb=>k.dead b (h.dead b hb),fun id B hB=>k.names id B (h.names id B hB),fun b hb=>by
  rcases k.new b hb with hb|hb
  ·exact h.new b hb
  ·exact .inr hb⟩
theorem Step.rep {hs:Nat} {D D':Nat->Prop} {ι ι':Names} {w w':World} (h:Step hs D ι w D' ι' w') {a:AV} {v:Value} (hr:cQ P w D ι a v):cQ P w' D' ι' a v:=hr.frame h.qv h.dead h.names
theorem dz {k n} {v:Value} (h:cQ P w D ι (.int k n) v):v=.int k n:=by
 cases h with
 |ez _ _ h=>cases h;rfl
theorem eG {b} {v:Value} (h:cQ P w D ι (.bool b) v):v=.bool b:=by
 cases h with
 |ez _ _ h=>cases h;rfl
theorem eY {s} {v:Value} (h:cQ P w D ι (.str s) v):v=.string s:=by
 cases h with
 |ez _ _ h=>cases h;rfl
theorem jq {v:Value} (h:cQ P w D ι .cK v):v=.slice none 0 0:=by
 cases h with
 |ez _ _ h=>cases h;rfl
theorem tb {v:Value} (h:cQ P w D ι .iH v):v=.nilFunc:=by
 cases h with
 |ez _ _ h=>cases h;rfl
theorem gV {cs} {v:Value} (h:cQ P w D ι (.agg cs) v):∃(vs:Array Value) (f:Nat->Value),v=.agg vs/\vs.size=cs.length/\(∀a∈cs,a.cell=true)/\(∀j,j<cs.length->vs[j]? =some (f j))/\∀j a,cs[j]? =some a->cQ P w D ι a (f j):=by
 cases h with
 |ez _ _ h=>
  cases h with
  |agg cs vs f h1 h2 h3 h4=>exact⟨vs,f,rfl,h1,h2,h3,fun j a h=>.ez _ _ (h4 j a h)⟩
 |agg cs vs f h1 h2 h3 h4=>exact⟨vs,f,rfl,h1,h2,h3,h4⟩
theorem rV {cs} {v:Value} (h:cQ P w D ι (.im cs) v):∃(vs:Array Value) (f:Nat->Value),v=.tuple vs/\vs.size=cs.length/\(∀j,j<cs.length->vs[j]? =some (f j))/\∀j a,cs[j]? =some a->cQ P w D ι a (f j):=by
 cases h with
 |ez _ _ h=>cases h
 |im cs vs f h1 h2 h3=>exact⟨vs,f,rfl,h1,h2,h3⟩
theorem wS {f cP} {v:Value} (h:cQ P w D ι (.fn f cP) v):∃(vs:Array Value) (g:Nat->Value),v=.func (.func f) #[] vs/\fc P f=true/\vs.size=cP.length/\(∀j,j<cP.length->vs[j]? =some (g j))/\∀j a,cP[j]? =some a->cQ P w D ι a (g j):=by
 cases h with
 |ez _ _ h=>
  cases h with
  |fn f cP vs g h1 h2 h3 h4=>exact⟨vs,g,rfl,h1,h2,h3,fun j a h=>.ez _ _ (h4 j a h)⟩
 |fn f cP vs g h1 h2 h3 h4=>exact⟨vs,g,rfl,h1,h2,h3,h4⟩
theorem Hk {v:Value} (h:cQ P w D ι .iR v):v=.pointer none:=by
 cases h with
 |ez _ _ h=>cases h;rfl
theorem zm {v:Value} (h:cQ P w D ι .iQ v):v=.map none:=by
 cases h with
 |ez _ _ h=>cases h;rfl
theorem JL {f cP} {v:Value} (h:cQ P w D ι (.tN f cP) v):∃(vs:Array Value) (g:Nat->Value),v=.func (.func f) vs #[]/\fc P f=true/\vs.size=cP.length/\(∀j,j<cP.length->vs[j]? =some (g j))/\∀j a,cP[j]? =some a->cQ P w D ι a (g j):=by
 cases h with
 |ez _ _ h=>cases h
 |tN f cP vs g h1 h2 h3 h4=>exact⟨vs,g,rfl,h1,h2,h3,h4⟩
theorem gD {id off len} {v:Value} (h:cQ P w D ι (.own id off len) v):∃o cap B,v=.slice (some ⟨B.b,o,none⟩) len cap/\ι id=some B/\len<=cap/\(cap=0∨o=off*B.sz)/\(off+cap)*B.sz<=B.C/\cap<=maxLen/\B.k=none:=by
 cases h with
 |ez _ _ h=>cases h
 |own id off len o cap B h1 h2 h3 h4 h5 h6=>exact⟨o,cap,B,rfl,h1,h3,h4,h5,h6,h2⟩
theorem iJ {id i off} {v:Value} (h:cQ P w D ι (.ptr id i off) v):∃B,v=.pointer (some ⟨B.b,i*B.sz+off,none⟩)/\ι id=some B/\B.k=none:=by
 cases h with
 |ez _ _ h=>cases h
 |ptr id i off B h1 h2=>exact⟨B,rfl,h1,h2⟩
theorem JI {id} {v:Value} (h:cQ P w D ι (.qj id) v):∃B c,v=.chan (some B.b)/\ι id=some B/\B.k=some (.chan c):=by
 cases h with
 |ez _ _ h=>cases h
 |qj id c B h1 h2=>exact⟨B,c,rfl,h1,h2⟩
theorem JK {id m} {v:Value} (h:cQ P w D ι (.map id m) v):∃B,v=.map (some B.b)/\ι id=some B/\B.k=some (.map m):=by
 cases h with
 |ez _ _ h=>cases h
 |map id m B h1 h2=>exact⟨B,rfl,h1,h2⟩
theorem j8 {cs} {v:Value} (h:cQ P w D ι (.dI cs) v):∃b o,∃vs:Nat->Value,v=.pointer (some ⟨b,o,none⟩)/\D b/\(∀a∈cs,a.cell=true)/\(∀j,j<cs.length->w.cell? ⟨b,o+j,none⟩=some (vs j))/\∀j a,cs[j]? =some a->jk P w D a (vs j):=by
 cases h with
 |ez _ _ h=>
  cases h with
  |dI cs b o vs h1 h2 h3 h4=>exact⟨b,o,vs,rfl,h1,h2,h3,h4⟩
theorem td {rows} {v:Value} (h:cQ P w D ι (.sl rows) v):∃A c,v=.slice A rows.length c/\rows.length<=c/\c<=maxLen/\
  (rows=[]∨∃b o sz,∃vs:Nat->Nat->Value,A=some ⟨b,o,none⟩/\D b/\(∀cs∈rows,cs.length=sz)/\(∀cs∈rows,∀a∈cs,a.cell=true)/\
   (∀i j,i<rows.length->j<sz->w.cell? ⟨b,o+(i*sz+j),none⟩=some (vs i j))/\∀i j cs a,rows[i]? =some cs->cs[j]? =some a->jk P w D a (vs i j)):=by
 cases h with
 |ez _ _ h=>
  cases h with
  |zP a c h=>exact⟨a,c,rfl,Nat.zero_le _,h,.inl rfl⟩
  |sl rows b o n c sz vs h1 h2 h3 h4 h5 h5' h6 h7=>subst h1;exact⟨_,c,rfl,h2,h3,.inr ⟨b,o,sz,vs,rfl,h4,h5,h5',h6,h7⟩⟩
inductive ep:AV->Prop
 |int (k n):ep (.int k n)
 |bool (b):ep (.bool b)
 |str (s):ep (.str s)
 |cK:ep .cK
 |iR:ep .iR
 |iH:ep .iH
 |sl (rows):rows.length<=maxLen->(∀cs∈rows,∀a∈cs,ep a)->ep (.sl rows)
 |own (id off len):ep (.own id off len)
 |ptr (id i off):ep (.ptr id i off)
 |dI (cs):(∀a∈cs,ep a)->ep (.dI cs)
 |agg (cs):(∀a∈cs,ep a)->ep (.agg cs)
 |im (cs):(∀a∈cs,ep a)->ep (.im cs)
 |fn (f cP):(∀a∈cP,ep a)->ep (.fn f cP)
 |map (id m):ep (.map id m)
 |qj (id):ep (.qj id)
 |iQ:ep .iQ
 |tN (f cP):(∀a∈cP,ep a)->ep (.tN f cP)
theorem ep.len {rows:List (List AV)} (h:ep (.sl rows)):rows.length<=9223372036854775807:=by
 cases h with
 |sl _ h _=>unfold maxLen at h;omega
theorem ep.K8 {cs:List AV} (h:ep (.agg cs)) {a:AV} (ha:a∈cs):ep a:=by
 cases h with
 |agg _ h=>exact h a ha
theorem ep.yU {cs:List AV} (h:ep (.dI cs)) {a:AV} (ha:a∈cs):ep a:=by
 cases h with
 |dI _ h=>exact h a ha
theorem mM {l:List AV} {p:AV->Prop} (h:∀(j:Nat) (a:AV),l[j]? =some a->p a):∀a∈l,p a:=fun a ha=>by
 obtain⟨j,hj,rfl⟩:=List.getElem_of_mem ha
 exact h j _ (List.getElem?_eq_getElem hj)
theorem jk.GQ {a:AV} {v:Value} (h:jk P w D a v):ep a:=by
 induction h with
 |int k n=>exact .int k n
 |bool b=>exact .bool b
 |str s=>exact .str s
 |cK=>exact .cK
 |iR=>exact .iR
 |iH=>exact .iH
 |iQ=>exact .iQ
 |zP a c h=>exact .sl [] (Nat.zero_le _) (fun cs h=>by cases h)
 |sl rows b o n c sz vs h1 h2 h3 h4 h5 h5' h6 _ ih=>
  exact .sl rows ad fun cs dx a ha=>by
   obtain⟨i,hi,rfl⟩:=List.getElem_of_mem dx
   obtain⟨j,hj,rfl⟩:=List.getElem_of_mem ha
   exact ih i j _ _ (List.getElem?_eq_getElem hi) (List.getElem?_eq_getElem hj)
 |dI cs b o vs h1 IF h2 _ ih=>exact .dI cs (mM ih)
 |agg cs vs f h1 h2 h3 _ ih=>exact .agg cs (mM ih)
 |fn f cP vs g h1 h2 h3 _ ih=>exact .fn f cP (mM ih)
theorem cQ.GQ {a:AV} {v:Value} (h:cQ P w D ι a v):ep a:=by
 induction h with
 |ez a v h=>exact h.GQ
 |own id off len o cap B=>exact .own _ _ _
 |ptr id i off B=>exact .ptr _ _ _
 |map id m B=>exact .map _ _
 |qj id c B=>exact .qj _
 |agg cs vs f h1 h2 h3 _ ih=>exact .agg cs (mM ih)
 |im cs vs f h1 h2 _ ih=>exact .im cs (mM ih)
 |fn f cP vs g h1 h2 h3 _ ih=>exact .fn f cP (mM ih)
 |tN f cP vs g h1 h2 h3 _ ih=>exact .tN f cP (mM ih)
end Go.Proofs.YtphenfakmdknlaaGreat.V

namespace Go.Proofs.YtphenfakmdknlaaGreat.V
open Go.RowKit
variable {P:Program} {w w':World} {D D':Nat->Prop} {ι ι':Names}
def cF (P:Program) (w:World) (D:Nat->Prop) (ι:Names) (env:Env) (a:Act):Prop:=∀t,cQ P w D ι (env t) (a.tmps.getD t undef)
theorem pD {vs:List Value} {cs:List K} (h:vs.mapM D9=some cs):cs.length=vs.length/\∀(j:Nat) (c:K),cs[j]? =some c->vs[j]? =some c.val:=by
 induction vs generalizing cs with
 |nil=>simp at h;subst h;simp
 |cons v r ih=>
  simp only[List.mapM_cons,Option.bind_eq_bind,Option.bind_eq_some_iff]at h
  obtain⟨c,hc,oa,dx,h⟩:=h
  simp at h;subst h
  obtain⟨h1,h2⟩:=ih dx
  refine⟨by simp[h1],fun j d hd=>?_⟩
  cases j with
  |zero=>simp at hd ⊢;subst hd;exact wC hc
  |succ j=>simp at hd ⊢;exact h2 j d hd
theorem Sq {vs:List Value} {cs:List K} (h:vs.mapM D9=some cs):cQ P w D ι (.agg (cs.map K.av)) (.agg vs.toArray):=by
 obtain⟨h1,h2⟩:=pD h
 refine .agg _ _ (fun j=>vs.getD j undef) (by simp[h1]) (fun a ha=>?_) (fun j hj=>?_) (fun j a ha=>?_)
 ·obtain⟨c,_,rfl⟩:=List.mem_map.1 ha;exact c.lk
 ·simp at hj;simp[List.getElem?_eq_getElem (show j<vs.length by omega)]
 ·simp only[List.getElem?_map,Option.map_eq_some_iff]at ha
  obtain⟨c,hc,rfl⟩:=ha
  rw[List.getD_eq_getElem?_getD,h2 j c hc];exact ta c
theorem cX {env:Env} {a:Act} {x:Operand} {y:O} (E:cF P w D ι env a) (h:cO P x=some y):cQ P w D ι (cJ env y) (a.eval x):=by
 unfold cO at h
 split at h
 ·simp at h;subst h;exact E _
 ·simp only[Option.map_eq_some_iff]at h
  obtain⟨cs,dx,rfl⟩:=h
  have:=Sq (P:=P) (w:=w) (D:=D) (ι:=ι) dx
  simpa[Act.eval,cJ]using this
 ·simp only[Option.map_eq_some_iff]at h
  obtain⟨c,hc,rfl⟩:=h
  simp only[Act.eval,cJ]
  rw[wC hc];exact ta c
 ·simp at h
 ·split at h
  ·rename_i hc
   simp at h;subst h
   simp only[Act.eval,cJ]
   exact .fn _ _ _ (fun _=>undef) hc rfl (fun j hj=>by simp at hj) (fun j a h=>by simp at h)
  ·simp at h
def mj (P:Program) (a:Act) (o:Oper) (w:World) (D:Nat->Prop) (ι:Names) (v:AV):Prop:=∃u,(execOp a.eval o).run P w=.ok (.value u) w/\cQ P w D ι v u
section
variable {g:Rows} {hs:Nat} {env:Env} {a:Act} {o:Oper} {id:Id} {v:AV}
theorem KY {x:Operand} {y:O} (E:cF P w D ι env a) (ho:o.op=.move x∨o.op=.assign x) (hx:cO P x=some y):mj P a o w D ι (cJ env y):=by
 refine⟨a.eval x,?_,cX E hx⟩
 rcases ho with h|h<;>simp[execOp,h,go_sem]
theorem Nc {c x y:Operand} {c' x' y':O} (E:cF P w D ι env a) (ho:o.op=.pick c x y) (hc:cO P c=some c') (hx:cO P x=some x') (hy:cO P y=some y') (hv:cz (cJ env c') (cJ env x') (cJ env y')=some v):mj P a o w D ι v:=by
 unfold cz at hv
 split at hv
 ·rename_i b hb
  simp at hv;subst hv
  have h1:=eG (hb▸cX E hc)
  refine⟨if b then a.eval x else a.eval y,by simp only[execOp,ho,h1,asBool];rfl,?_⟩
  cases b
  ·exact cX E hy
  ·exact cX E hx
 ·simp at hv
theorem PO {op:BinOp} {x y:Operand} {x' y':O} {t yt:TypeId} (E:cF P w D ι env a) (ho:o.op=.binOp op t x y yt) (he:op≠.eql) (hn:op≠.neq) (hx:cO P x=some x') (hy:cO P y=some y') (hv:de op (cJ env x') (cJ env y')=some v):mj P a o w D ι v:=by
 unfold de at hv
 split at hv
 ·rename_i k n k' m hb qn
  split at hv
  ·rename_i hk
   subst hk
   have h1:=dz (hb▸cX E hx)
   have h2:=dz (qn▸cX E hy)
   have key:∀u,(binOp op t (.int k n) (.int k m)).run P w=.ok u w->(execOp a.eval o).run P w=.ok (.value u) w:=fun u hu=>by
    have e0:eqGuard op t x y (.int k n) (.int k m)=pure ():=by unfold eqGuard;cases op<;>rfl
    simp only[execOp,ho,h1,h2,e0]
    simp[go_sem,hu]
   cases op<;>simp only[cU]at hv<;>(try(simp at hv;done))<;>(try split at hv)<;>(try(simp at hv;done))<;>simp only[Option.some.injEq]at hv<;>subst hv<;>
    (refine⟨_,key _ (by simp only[binOp,ne_eq,not_true_eq_false,if_false,Op.intArith,Op.intDiv,Op.intBits,Op.intCmp, *];rfl),?_⟩)<;>
    first
     |exact .ez _ _ (.int _ _)
     |exact .ez _ _ (.bool _)
  ·simp at hv
 ·simp at hv
theorem MV {op:BinOp} {x y:Operand} {x' y':O} {t yt:TypeId} (E:cF P w D ι env a) (ho:o.op=.binOp op t x y yt) (he:op≠.eql) (hn:op≠.neq) (hx:cO P x=some x') (hy:cO P y=some y') (hv:cC op (cJ env x') (cJ env y')=some v):mj P a o w D ι v:=by
 unfold cC at hv
 split at hv
 ·rename_i n m hb qn
  have h1:=eY (hb▸cX E hx)
  have h2:=eY (qn▸cX E hy)
  cases op<;>simp only[dv]at hv<;>(try(simp at hv;done))
  case add=>
   split at hv
   ·rename_i hl
    simp only[Option.some.injEq]at hv;subst hv
    exact⟨_,by simp only[execOp,ho,h1,h2];simp[eqGuard,binOp,go_sem];exact hl,.ez _ _ (.str _)⟩
   ·simp at hv
  all_goals
   simp only[Option.some.injEq]at hv;subst hv
   exact⟨_,by simp only[execOp,ho,h1,h2];simp[eqGuard,binOp,Op.stringOp,go_sem],.ez _ _ (.bool _)⟩
 ·simp at hv
theorem CY (n m:ByteArray):(n.toList==m.toList)=decide (n=m):=by
 rw[ByteArray.toList_eq,ByteArray.toList_eq]
 by_cases h:n=m
 ·subst h;simp
 ·have:n.data.toList≠m.data.toList:=fun he=>h (ByteArray.ext (Array.ext' he))
  rw[decide_eq_false h];exact beq_eq_false_iff_ne.2 this
theorem nD {t:TypeId} (h:eS P t=some .tB):P.underlying t=some .bool:=by unfold eS at h;split at h<;>simp_all
theorem nE {t:TypeId} (h:eS P t=some .tI):∃k,P.underlying t=some (.int k):=by unfold eS at h;split at h<;>simp_all
theorem nF {t:TypeId} (h:eS P t=some .tS):P.underlying t=some .string:=by unfold eS at h;split at h<;>simp_all
theorem pO {d:Nat} {t:TypeId} {s:TS} {x y:AV} {u u':Value} {b:Bool} (hx:cQ P w D ι x u) (hy:cQ P w D ι y u') (hv:eO s x y=some b) (ht:eS P t=some s):(Op.equalIn (d+1) t u u').run P w=.ok b w:=by
 unfold eO at hv
 split at hv
 ·rename_i k n k' m
  split at hv
  ·rename_i hk
   subst hk
   simp at hv;subst hv
   obtain⟨q,hq⟩:=nE ht
   rw[dz hx,dz hy,run_equalIn_int _ _ _ _ _ _ _ hq];rfl
  ·simp at hv
 ·simp at hv;subst hv
  rw[eG hx,eG hy,run_equalIn_bool' _ _ _ _ _ (nD ht)]
 ·simp at hv;subst hv
  rw[eY hx,eY hy,run_equalIn_string _ _ _ _ _ (nF ht),CY]
 ·simp at hv
def eP (P:Program) (w:World) (D:Nat->Prop) (ι:Names) (xs:List AV) (vs:Array Value):Prop:=vs.size=xs.length/\∀(j:Nat) (a:AV),xs[j]? =some a->∃u,vs[j]? =some u/\cQ P w D ι a u
theorem eP.part {xs:List AV} {vs:Array Value} (h:eP P w D ι xs vs) (off n:Nat) (hn:off+n<=xs.length):eP P w D ι ((xs.drop off).take n) (vs.extract off (off+n)):=by
 refine⟨by simp[h.1];omega,fun j a ha=>?_⟩
 rw[List.getElem?_take]at ha
 split at ha
 ·rename_i hj
  rw[List.getElem?_drop]at ha
  obtain⟨u,h1,h2⟩:=h.2 _ _ ha
  refine⟨u,?_,h2⟩
  rw[Array.getElem?_extract]
  rw[if_pos (by rw[h.1];omega),h1]
 ·simp at ha
theorem pa:∀{ts:List TS} {xs ys:List AV} {b:Bool},er ts xs ys=some b->xs.length=ts.length/\ys.length=ts.length
 |[],[],[],_,_=>⟨rfl,rfl⟩
 |t::ts,x::xs,y::ys,b,h=>by
  unfold er at h
  split at h
  ·rename_i c d h1 h2
   have:=pa h2
   simp[this.1,this.2]
  ·simp at h
 |[],[],_::_,_,h=>by simp[er]at h
 |[],_::_,_,_,h=>by simp[er]at h
 |_::_,[],_,_,h=>by simp[er]at h
 |_::_,_::_,[],_,h=>by simp[er]at h
theorem Ck:∀{ts us:List TS} {xs ys:List AV} {b:Bool},er (ts++us) xs ys=some b->∃c d,er ts (xs.take ts.length) (ys.take ts.length)=some c/\er us (xs.drop ts.length) (ys.drop ts.length)=some d/\b=(c&&d)
 |[],us,xs,ys,b,h=>⟨true,b,by simp[er],by simpa using h,by simp⟩
 |t::ts,us,x::xs,y::ys,b,h=>by
  simp only[List.cons_append]at h
  unfold er at h
  split at h
  ·rename_i c d h1 h2
   obtain⟨c',d',h3,h4,rfl⟩:=Ck h2
   simp at h;subst h
   exact⟨c&&c',d',by simp[er,h1,h3],by simpa using h4,by simp[Bool.and_assoc]⟩
  ·simp at h
 |t::ts,us,[],ys,b,h=>by simp[er]at h
 |t::ts,us,x::xs,[],b,h=>by simp[er]at h
theorem k9 {t:TypeId} {vs:Array Value} {off:Nat} {u:Value} (ha:lY P t=some false) (hu:vs[off]? =some u):(Go.part t vs off).run P w=.ok u w:=by
 unfold lY at ha
 have hi:(isAgg t).run P w=.ok false w:=by
  split at ha<;>simp at ha
  rename_i d h1 h2 hd
  simp only[isAgg,Sem.run_bind,run_underlying hd,Result.andThen_ok]
  cases d<;>simp_all
 simp[Go.part,hi,hu]
theorem qC {t:TypeId} {b:Bool} (ha:lY P t=some b):(isAgg t).run P w=.ok b w:=by
 unfold lY at ha
 split at ha<;>simp at ha<;>subst ha<;>rename_i hd<;>simp only[isAgg,Sem.run_bind,run_underlying hd,Result.andThen_ok]<;>(try simp)
theorem run_sizeOf {t:TypeId} {n:Nat} (h:dS P t=some n):(sizeOf t).run P w=.ok n w:=by
 unfold dS at h
 simp only[Option.map_eq_some_iff]at h
 obtain⟨i,hi,rfl⟩:=h
 simp[sizeOf,typeInfo,hi]
theorem nC {t:TypeId} {vs:Array Value} {off n:Nat} (ha:lY P t=some true) (hn:dS P t=some n):(Go.part t vs off).run P w=.ok (.agg (vs.extract off (off+n))) w:=by
 simp[Go.part,qC ha,run_sizeOf hn]
theorem F8 (d off:Nat):ek P (d+1) off []=some []:=rfl
theorem uD (d off:Nat) (f:Field) (r:List Field):ek P (d+1) off (f::r)=(if f.offset=off/\f.name≠ "_" then
   match eS P f.type with
   |some t=>if lY P f.type=some false then(ek P (d+1) (off+1) r).map (t::·)else none
   |none=>match P.underlying f.type with
    |some (.struct fs)=>if !P.stoodInHeld f.type then match ek P d 0 fs.toList with
     |some ts=>if dS P f.type=some ts.length/\ts≠[]then(ek P (d+1) (off+ts.length) r).map (ts++·)else none
     |none=>none else none
    |_=>none
  else none):=rfl
theorem pN:∀(d:Nat) (fs:List Field) (off:Nat) (ts:List TS),ek P d off fs=some ts->∀(N:Nat) (_:d<=N) (xs ys:List AV) (vs us:Array Value) (b:Bool),eP P w D ι xs vs->eP P w D ι ys us->
  er ts ((xs.drop off).take ts.length) ((ys.drop off).take ts.length)=some b->(Op.eqFields (N+1) vs us fs).run P w=.ok b w:=by
 intro d
 induction d with
 |zero=>
  intro fs off ts hf N _ xs ys vs us b _ _ he
  cases fs with
  |nil=>simp[ek]at hf;subst hf;simp[er]at he;subst he;simp[Op.eqFields]
  |cons f r=>simp[ek]at hf
 |succ d ihd=>
  intro fs
  induction fs with
  |nil=>
   intro off ts hf N _ xs ys vs us b _ _ he
   rw[F8]at hf;simp at hf;subst hf;simp[er]at he;subst he;simp[Op.eqFields]
  |cons f r ih=>
   intro off ts hf N hN xs ys vs us b hx hy he
   rw[uD]at hf
   split at hf
   ·rename_i hcond
    obtain⟨ho,gQ⟩:=hcond
    split at hf
    ·rename_i s hs
     split at hf
     ·rename_i rP
      simp only[Option.map_eq_some_iff]at hf
      obtain⟨KV,hr,rfl⟩:=hf
      obtain⟨l1,l2⟩:=pa he
      simp only[List.length_cons,List.length_take,List.length_drop]at l1 l2
      have Ph:off<xs.length:=ad
      have hyo:off<ys.length:=ad
      rw[List.drop_eq_getElem_cons Ph,List.drop_eq_getElem_cons hyo,List.length_cons,List.take_succ_cons,List.take_succ_cons]at he
      unfold er at he
      split at he
      ·rename_i c d' h1 h2
       simp at he;subst he
       obtain⟨u,hu,ru⟩:=hx.2 off _ (List.getElem?_eq_getElem Ph)
       obtain⟨u',CE,ru'⟩:=hy.2 off _ (List.getElem?_eq_getElem hyo)
       have:=ih (off+1) KV hr N hN xs ys vs us d' hx hy h2
       simp only[Op.eqFields,if_pos gQ,Sem.run_bind,ho,k9 rP hu,k9 rP CE,Result.andThen_ok,pO ru ru' h1 hs,Sem.run_ite]
       cases c<;>simp[this]
      ·simp at he
     ·simp at hf
    ·split at hf
     ·rename_i fs' pf
      split at hf
      ·rename_i ee
       split at hf
       ·rename_i ts1 hts1
        split at hf
        ·rename_i eU
         simp only[Option.map_eq_some_iff]at hf
         obtain⟨KV,hr,rfl⟩:=hf
         obtain⟨c,d',h1,h2,rfl⟩:=Ck he
         obtain⟨l1,l2⟩:=pa he
         simp only[List.length_append,List.length_take,List.length_drop]at l1 l2
         have rP:lY P f.type=some true:=by simp[lY,pf]
         have jo:0<ts1.length:=List.length_pos_iff.2 eU.2
         have uN:off+ts1.length<=xs.length:=ad
         have Me:off+ts1.length<=ys.length:=ad
         rw[List.drop_take,List.drop_drop,List.drop_take,List.drop_drop]at h2
         rw[List.take_take,List.take_take]at h1
         simp only[List.length_append]at h1 h2
         rw[Nat.min_eq_left ad]at h1
         have e2:ts1.length+KV.length-ts1.length=KV.length:=ad
         rw[e2]at h2
         have:=ih (off+ts1.length) KV hr N hN xs ys vs us d' hx hy h2
         have gP:=ihd fs'.toList 0 ts1 hts1 (N-1) ad _ _ _ _ c (hx.part off ts1.length uN) (hy.part off ts1.length Me) (by simpa[List.take_take]using h1)
         have hN':N-1+1=N:=ad
         rw[hN']at gP
         have Km:P.fieldsOf f.type=fs':=by simp[Program.fieldsOf,pf]
         simp only[Op.eqFields,if_pos gQ,Sem.run_bind,ho,nC rP eU.1,Result.andThen_ok,Sem.run_ite]
         rw[run_equalIn_struct w N f.type _ _ (by rw[Km];exact pf) (by simpa using ee),Km,gP]
         cases c<;>simp[this]
        ·simp at hf
       ·simp at hf
      ·simp at hf
     ·simp at hf
   ·simp at hf
theorem PT {x y:Operand} {x' y':O} {t yt:TypeId} {neg:Bool} {s:TS} {b:Bool} (E:cF P w D ι env a) (ho:o.op=.binOp (if neg then .neq else .eql) t x y yt) (hs:eS P t=some s) (hx:cO P x=some x') (hy:cO P y=some y')
  (hv:eO s (cJ env x') (cJ env y')=some b):mj P a o w D ι (.bool (cL neg b)):=by
 have rx:=cX E hx
 have ry:=cX E hy
 refine⟨.bool (cL neg b),?_,.ez _ _ (.bool _)⟩
 have e0:(eqGuard (if neg then .neq else .eql) t x y (a.eval x) (a.eval y)).run P w=.ok () w:=by
  unfold eO at hv
  split at hv
  ·rename_i k n k' m h1 h2
   rw[h1]at rx;rw[h2]at ry
   rw[dz rx,dz ry];unfold eqGuard;cases neg<;>simp
  ·rename_i n m h1 h2
   rw[h1]at rx;rw[h2]at ry
   rw[eG rx,eG ry];unfold eqGuard;cases neg<;>simp
  ·rename_i n m h1 h2
   rw[h1]at rx;rw[h2]at ry
   rw[eY rx,eY ry];unfold eqGuard;cases neg<;>simp
  ·simp at hv
 have e1:(binOp (if neg then .neq else .eql) t (a.eval x) (a.eval y)).run P w=.ok (.bool (cL neg b)) w:=by
  have q:=pO (d:=9999) rx ry hv hs
  unfold eO at hv
  split at hv
  ·rename_i k n k' m h1 h2
   split at hv
   ·rename_i hk
    subst hk
    simp at hv;subst hv
    rw[h1]at rx;rw[h2]at ry
    rw[dz rx,dz ry]
    cases neg<;>simp only[binOp,ne_eq,not_true_eq_false,if_false,Op.intCmp,cL,if_true,Bool.false_eq_true]<;>simp[bne]<;>rfl
   ·simp at hv
  ·rename_i n m h1 h2
   rw[h1]at rx;rw[h2]at ry
   rw[eG rx,eG ry]at q ⊢
   cases neg<;>simp only[binOp,cL,if_true,Bool.false_eq_true,if_false,Sem.run_bind]<;>simp[Op.equal,Op.maxDepth,q]
  ·rename_i n m h1 h2
   simp at hv;subst hv
   rw[h1]at rx;rw[h2]at ry
   rw[eY rx,eY ry]
   cases neg<;>simp[binOp,Op.stringOp,cL,CY]
  ·simp at hv
 simp only[execOp,ho,Sem.run_bind,e0,e1,Result.andThen_ok,Sem.run_pure]
theorem PR {x y:Operand} {x' y':O} {t yt:TypeId} {neg:Bool} {ts:List TS} {fs:Array Field} {xs ys:List AV} {b:Bool} (E:cF P w D ι env a) (ho:o.op=.binOp (if neg then .neq else .eql) t x y yt) (pf:P.underlying t=some (.struct fs)) (ee:P.stoodInHeld t=false) (wc:P.eqGuardType P.depth t=false)
  (tZ:ek P 4 0 fs.toList=some ts) (hx:cO P x=some x') (hy:cO P y=some y') (h1:cJ env x'=.agg xs) (h2:cJ env y'=.agg ys)
  (hv:er ts xs ys=some b):mj P a o w D ι (.bool (cL neg b)):=by
 obtain⟨vs,f,rx,n1,_,f1,r1⟩:=gV (h1▸cX E hx)
 obtain⟨us,f',ry,n2,_,f2,r2⟩:=gV (h2▸cX E hy)
 refine⟨.bool (cL neg b),?_,.ez _ _ (.bool _)⟩
 obtain⟨l1,l2⟩:=pa hv
 have L:∀(xs:List AV) (vs:Array Value) (f:Nat->Value),vs.size=xs.length->(∀j,j<xs.length->vs[j]? =some (f j))->(∀j a,xs[j]? =some a->cQ P w D ι a (f j))->eP P w D ι xs vs:=fun xs vs f h1 h2 h3=>
  ⟨h1,fun j a ha=>⟨f j,h2 j (List.getElem?_eq_some_iff.1 ha).1,h3 j a ha⟩⟩
 have q:=pN (w:=w) 4 fs.toList 0 ts tZ 9998 ad xs ys vs us b (L _ _ _ n1 f1 r1) (L _ _ _ n2 f2 r2) (by simpa[List.take_of_length_le,l1,l2]using hv)
 have Km:P.fieldsOf t=fs:=by simp[Program.fieldsOf,pf]
 have q2:(Op.equal t (.agg vs) (.agg us)).run P w=.ok b w:=by
  unfold Op.equal
  rw[show Op.maxDepth=9999+1 from rfl,run_equalIn_struct w 9999 t _ _ (by rw[Km];exact pf) ee,Km,q]
 simp only[execOp,ho,Sem.run_bind,rx,ry,run_eqGuard_agg w _ _ _ _ _ _ wc,Result.andThen_ok]
 cases neg<;>simp[binOp,q2,cL]
theorem MZ {x:Operand} {x':O} {t yt e:TypeId} {neg:Bool} {b:Bool} (E:cF P w D ι env a) (ho:o.op=.binOp (if neg then .neq else .eql) t x (.const (.slice none 0 0)) yt) (ht:P.underlying t=some (.slice e)) (hx:cO P x=some x')
  (hv:cw (cJ env x')=some b):mj P a o w D ι (.bool (cL neg b)):=by
 have hr:=cX E hx
 have rx:∃A n c,a.eval x=.slice A n c/\b=A.isNone:=by
  unfold cw at hv
  split at hv<;>simp at hv<;>subst hv<;>rename_i hh
  ·rw[hh]at hr;exact⟨_,_,_,jq hr,rfl⟩
  ·rw[hh]at hr;obtain⟨o,cap,B,h,_⟩:=gD hr
   exact⟨_,_,_,h,rfl⟩
  ·rw[hh]at hr
   obtain⟨A,c,h',_,_,h⟩:=td hr
   rcases h with h|⟨b,o,sz,vs,rfl,_⟩
   ·simp at h
   ·exact⟨_,_,_,h',rfl⟩
 refine⟨.bool (cL neg b),?_,.ez _ _ (.bool _)⟩
 obtain⟨A,n,c,h,rfl⟩:=rx
 have hq:(Op.equal t (.slice A n c) (.slice none 0 0)).run P w=.ok A.isNone w:=by
  unfold Op.equal
  rw[show Op.maxDepth=9999+1 from rfl,Op.equalIn]
  simp only[Sem.run_bind,run_underlying ht,Result.andThen_ok]
  cases A<;>rfl
 have hc:a.eval (.const (.slice none 0 0))=.slice none 0 0:=rfl
 simp only[execOp,ho,h,hc]
 cases neg<;>simp only[Bool.false_eq_true,if_false,if_true,Bool.not_true,Bool.not_false,eqGuard,binOp,cL,Sem.run_bind,hq,Result.andThen_ok,Sem.run_pure]
theorem PS {x:Operand} {x':O} {t yt e:TypeId} {neg:Bool} {b:Bool} (E:cF P w D ι env a) (ho:o.op=.binOp (if neg then .neq else .eql) t x (.const (.pointer none)) yt) (ht:P.underlying t=some (.pointer e)) (hx:cO P x=some x')
  (hv:HO (cJ env x')=some b):mj P a o w D ι (.bool (cL neg b)):=by
 have hr:=cX E hx
 have rx:∃A,a.eval x=.pointer A/\b=A.isNone:=by
  unfold HO at hv
  split at hv<;>simp at hv<;>subst hv<;>rename_i hh
  ·rw[hh]at hr;exact⟨_,Hk hr,rfl⟩
  ·rw[hh]at hr;obtain⟨B,h,_⟩:=iJ hr
   exact⟨_,h,rfl⟩
  ·rw[hh]at hr;obtain⟨_,_,_,h,_⟩:=j8 hr
   exact⟨_,h,rfl⟩
 refine⟨.bool (cL neg b),?_,.ez _ _ (.bool _)⟩
 obtain⟨A,h,rfl⟩:=rx
 have hq:(Op.equal t (.pointer A) (.pointer none)).run P w=.ok A.isNone w:=by
  unfold Op.equal
  rw[show Op.maxDepth=9999+1 from rfl,Op.equalIn]
  simp only[Sem.run_bind,run_underlying ht,Result.andThen_ok]
  cases A<;>rfl
 have hc:a.eval (.const (.pointer none))=.pointer none:=rfl
 simp only[execOp,ho,h,hc]
 cases neg<;>simp only[Bool.false_eq_true,if_false,if_true,Bool.not_true,Bool.not_false,eqGuard,binOp,cL,Sem.run_bind,hq,Result.andThen_ok,Sem.run_pure]
theorem MY {x:Operand} {x':O} {t yt:TypeId} {p r:Array TypeId} {va:Bool} {neg:Bool} {b:Bool} (E:cF P w D ι env a) (ho:o.op=.binOp (if neg then .neq else .eql) t x (.const .nilFunc) yt) (ht:P.underlying t=some (.func p r va)) (hx:cO P x=some x')
  (hv:cu (cJ env x')=some b):mj P a o w D ι (.bool (cL neg b)):=by
 have hr:=cX E hx
 have rx:a.eval x=.nilFunc/\b=true∨∃f c,a.eval x=.func f #[] c/\b=false:=by
  unfold cu at hv
  split at hv<;>simp at hv<;>subst hv<;>rename_i hh
  ·rw[hh]at hr;exact .inl ⟨tb hr,rfl⟩
  ·rw[hh]at hr;obtain⟨vs,g,h,_⟩:=wS hr
   exact .inr ⟨_,_,h,rfl⟩
 refine⟨.bool (cL neg b),?_,.ez _ _ (.bool _)⟩
 have hc:a.eval (.const .nilFunc)=.nilFunc:=rfl
 rcases rx with⟨h,rfl⟩|⟨f,c,h,rfl⟩
 ·have hq:(Op.equal t .nilFunc .nilFunc).run P w=.ok true w:=by
   unfold Op.equal
   rw[show Op.maxDepth=9999+1 from rfl,Op.equalIn]
   simp only[Sem.run_bind,run_underlying ht,Result.andThen_ok]
   rfl
  simp only[execOp,ho,h,hc]
  cases neg<;>simp only[Bool.false_eq_true,if_false,if_true,Bool.not_true,Bool.not_false,eqGuard,binOp,cL,Sem.run_bind,hq,Result.andThen_ok,Sem.run_pure]
 ·have hq:(Op.equal t (.func f #[] c) .nilFunc).run P w=.ok false w:=by
   unfold Op.equal
   rw[show Op.maxDepth=9999+1 from rfl,Op.equalIn]
   simp only[Sem.run_bind,run_underlying ht,Result.andThen_ok]
   rfl
  simp only[execOp,ho,h,hc]
  cases neg<;>simp only[Bool.false_eq_true,if_false,if_true,Bool.not_true,Bool.not_false,eqGuard,binOp,cL,Sem.run_bind,hq,Result.andThen_ok,Sem.run_pure]
theorem PX {x:Operand} {x':O} {t:TypeId} (E:cF P w D ι env a) (ho:o.op=.unOp .not t x) (hx:cO P x=some x') (hv:dn (cJ env x')=some v):mj P a o w D ι v:=by
 have hr:=cX E hx
 unfold dn at hv
 split at hv
 ·rename_i b hb
  simp at hv;subst hv
  rw[hb]at hr
  exact⟨_,by simp only[execOp,ho,eG hr];rfl,.ez _ _ (.bool _)⟩
 ·simp at hv
theorem PW {x:Operand} {x':O} {t:TypeId} (E:cF P w D ι env a) (ho:o.op=.unOp .neg t x) (hx:cO P x=some x') (hv:dj (cJ env x')=some v):mj P a o w D ι v:=by
 have hr:=cX E hx
 unfold dj at hv
 split at hv
 ·rename_i k n hb
  simp at hv;subst hv
  rw[hb]at hr
  refine⟨_,by simp only[execOp,ho,dz hr];rfl,?_⟩
  rw[Int.zero_sub];exact .ez _ _ (.int _ _)
 ·simp at hv
theorem MX {x:Operand} {x':O} {s d:TypeId} {k q:IntKind} (E:cF P w D ι env a) (ho:o.op=.convert s d x) (hs:P.underlying s=some (.int q)) (hd:P.underlying d=some (.int k)) (hx:cO P x=some x') (hv:bY k (cJ env x')=some v):mj P a o w D ι v:=by
 have hr:=cX E hx
 unfold bY at hv
 split at hv
 ·rename_i k' n hb
  simp at hv;subst hv
  rw[hb]at hr
  refine⟨.int k (k.wrap n),?_,.ez _ _ (.int _ _)⟩
  simp only[execOp,ho,dz hr,convert,Sem.run_bind,run_underlying hs,run_underlying hd,Result.andThen_ok,Conv.intToInt,Sem.run_pure]
 ·simp at hv
theorem J3 {x:Operand} {x':O} {s:TypeId} {i:Nat} {fs:Array Field} {f:Field} {m:Nat} (E:cF P w D ι env a) (ho:o.op=.fieldAddr s x i) (hs:P.underlying s=some (.struct fs)) (hf:fs[i]? =some f) (hm:dS P f.type=some (m+1)) (hx:cO P x=some x')
  (hv:BV f.offset (cJ env x')=some v):mj P a o w D ι v:=by
 have hr:=cX E hx
 have go:∀b oo,a.eval x=.pointer (some ⟨b,oo,none⟩)->(execOp a.eval o).run P w=.ok (.value (.pointer (some ⟨b,oo+f.offset,none⟩))) w:=fun b oo h=>by
  simp only[execOp,ho,h,Instr.fieldAt,Sem.run_bind,run_underlying hs,Result.andThen_ok,hf,Instr.sureAddr,Sem.run_pure,fieldPlace,run_sizeOf hm,Nat.add_eq_zero_iff,Nat.one_ne_zero,and_false,if_false,Addr.add]
  split
  ·rename_i h0;simp[h0]
  ·rfl
 unfold BV at hv
 split at hv
 ·rename_i jW i' oo hb
  simp at hv;subst hv
  rw[hb]at hr
  obtain⟨B,h,hB,hk⟩:=iJ hr
  refine⟨_,go _ _ h,?_⟩
  rw[Nat.add_assoc]
  exact .ptr _ _ _ _ hB hk
 ·rename_i cs hb
  simp at hv;subst hv
  rw[hb]at hr
  obtain⟨b,oo,vs,h,h1,h2,h3,h4⟩:=j8 hr
  refine⟨_,go _ _ h,.ez _ _ (.dI _ _ _ (fun j=>vs (f.offset+j)) h1 (fun a ha=>h2 a (List.mem_of_mem_drop ha)) (fun j hj=>?_) (fun j a ha=>h4 _ _ (by simpa using ha)))⟩
  rw[Nat.add_assoc]
  exact h3 _ (by simp at hj;omega)
 ·simp at hv
theorem J4 {x:Operand} {x':O} {s:TypeId} {i n:Nat} {ag:Bool} {fs:Array Field} {f:Field} (E:cF P w D ι env a) (ho:o.op=.field s x i) (hs:P.underlying s=some (.struct fs)) (hf:fs[i]? =some f) (rP:lY P f.type=some ag) (hm:dS P f.type=some n) (hx:cO P x=some x')
  (hv:bh ag f.offset n (cJ env x')=some v):mj P a o w D ι v:=by
 have hr:=cX E hx
 unfold bh at hv
 split at hv
 ·rename_i cs hb
  split at hv
  ·rename_i hl
   rw[hb]at hr
   obtain⟨vs,g,h,n1,fl,f1,r1⟩:=gV hr
   unfold part at hv
   cases ag with
   |true=>
    simp only[if_true]at hv
    split at hv
    ·simp at hv;subst hv
     refine⟨.agg (vs.extract f.offset (f.offset+n)),?_,.agg _ _ (fun j=>g (f.offset+j)) (by simp[n1];omega) (fun a ha=>fl a (List.mem_of_mem_drop (List.mem_of_mem_take ha))) (fun j hj=>?_) (fun j a ha=>?_)⟩
     ·simp only[execOp,ho,h,Instr.field,Sem.run_bind,run_underlying hs,Result.andThen_ok,hf,asAgg,Sem.run_pure,nC rP hm]
     ·simp at hj
      rw[Array.getElem?_extract,if_pos ad];exact f1 _ ad
     ·rw[List.getElem?_take]at ha
      split at ha
      ·exact r1 _ _ (by simpa using ha)
      ·simp at ha
    ·simp at hv
   |false=>
    simp only[Bool.false_eq_true,if_false]at hv
    have lU:cs[f.offset]? =some v:=by simpa[List.head?_drop]using hv
    have ea:=(List.getElem?_eq_some_iff.1 lU).1
    exact⟨g f.offset,by simp only[execOp,ho,h,Instr.field,Sem.run_bind,run_underlying hs,Result.andThen_ok,hf,asAgg,Sem.run_pure,k9 rP (f1 _ ea)],r1 _ _ lU⟩
  ·simp at hv
 ·simp at hv
theorem PY {left:Bool} {x y:Operand} {x' y':O} {t yt:TypeId} (E:cF P w D ι env a) (ho:o.op=.binOp (if left then .shl else .shr) t x y yt) (hx:cO P x=some x') (hy:cO P y=some y') (hv:fj left (cJ env x') (cJ env y')=some v):mj P a o w D ι v:=by
 unfold fj at hv
 split at hv
 ·rename_i k n k' m hb qn
  split at hv
  ·simp at hv
  ·rename_i hm
   simp at hv;subst hv
   have h1:=dz (hb▸cX E hx)
   have h2:=dz (qn▸cX E hy)
   refine⟨_,?_,.ez _ _ (.int _ _)⟩
   simp only[execOp,ho,h1,h2]
   cases left<;>simp only[Bool.false_eq_true,if_false,if_true,eqGuard,Bool.not_true,Bool.not_false,binOp,Op.shift,hm,Sem.run_bind,Sem.run_pure,Result.andThen_ok]<;>rfl
 ·simp at hv
end
end Go.Proofs.YtphenfakmdknlaaGreat.V

namespace Go.Proofs.YtphenfakmdknlaaGreat.V
open Go.RowKit
variable {P:Program} {w w':World} {D D':Nat->Prop} {ι ι':Names}
theorem jt (b o j:Nat):(⟨b,o,none⟩:Addr).add j=⟨b,o+j,none⟩:=by unfold Addr.add;split<;>simp_all
section
variable {g:Rows} {hs:Nat} {env:Env} {a:Act} {o:Oper} {id:Id} {v:AV}
theorem jK {t:TypeId} {ag:Bool} {n b oo:Nat} {cs:List AV} {v:AV} {f:Nat->Value} (rP:lY P t=some ag) (hn:dS P t=some n) (hp:part ag n cs=some v) (fl:∀a∈cs,a.cell=true)
  (hc:∀j,j<cs.length->w.cell? ⟨b,oo+j,none⟩=some (f j)) (hr:∀j a,cs[j]? =some a->cQ P w D ι a (f j)):∃u,(loadVar t ⟨b,oo,none⟩).run P w=.ok u w/\cQ P w D ι v u:=by
 unfold part at hp
 cases ag with
 |true=>
  simp only[if_true]at hp
  split at hp
  ·rename_i hl
   simp at hp;subst hp
   refine⟨.agg ((List.range n).map f).toArray,?_,.agg _ _ f (by simp;omega) (fun a ha=>fl a (List.mem_of_mem_take ha)) (fun j hj=>?_) (fun j a ha=>?_)⟩
   ·simp only[loadVar,Sem.run_bind,qC rP,Result.andThen_ok,if_true,run_sizeOf hn,Sem.run_pure]
    rw[run_loadCells w _ n f (fun j hj=>by rw[jt];exact hc j ad)]
    rfl
   ·simp at hj
    have:j<n:=ad
    simp[this]
   ·rw[List.getElem?_take]at ha
    split at ha
    ·exact hr _ _ ha
    ·simp at ha
  ·simp at hp
 |false=>
  simp only[Bool.false_eq_true,if_false]at hp
  cases cs with
  |nil=>simp at hp
  |cons c r=>
   simp at hp;subst hp
   refine⟨f 0,?_,hr 0 _ rfl⟩
   simp only[loadVar,Sem.run_bind,qC rP,Result.andThen_ok,Bool.false_eq_true,if_false]
   have:=hc 0 (by simp)
   simp at this
   rw[run_load,this]
theorem Hp {S:fN P hs D ι g w} {i:Nat} {cs:List AV} (h:rowAt g id i=some cs) (hk:∀B,ι id=some B->B.k=none):∃B r,g id=some r/\ι id=some B/\kC P w D ι B r/\r.rows[i]? =some cs/\(∀a∈cs,a.cell=true)/\∃f:Nat->Value,∀j,j<cs.length->w.cell? ⟨B.b,i*B.sz+j,none⟩=some (f j)/\∀a,cs[j]? =some a->cQ P w D ι a (f j):=by
 unfold rowAt at h
 simp only[Option.bind_eq_some_iff]at h
 obtain⟨r,hr,hi⟩:=h
 obtain⟨B,hB,R,_,_⟩:=S.row id r hr
 replace R:=R.row (hk B hB)
 refine⟨B,r,hr,hB,R,hi,R.flat cs (List.mem_of_getElem? hi),fun j=>(w.cell? ⟨B.b,i*B.sz+j,none⟩).getD undef,fun j hj=>?_⟩
 obtain⟨u,hu,tY⟩:=R.at_ i j cs _ hi (List.getElem?_eq_getElem hj)
 rw[R.sz,hu]
 refine⟨by simp only[hu,Option.getD_some],fun a ha=>?_⟩
 rw[List.getElem?_eq_getElem hj]at ha
 injection ha with ha
 subst ha
 simpa only[hu,Option.getD_some]using tY
theorem M6 {x:Operand} {x':O} {t:TypeId} {ag:Bool} {n:Nat} (S:fN P hs D ι g w) (E:cF P w D ι env a) (ho:o.op=.load t x) (rP:lY P t=some ag) (hn:dS P t=some n) (hx:cO P x=some x') (hv:ld g ag n (cJ env x')=some v):mj P a o w D ι v:=by
 have hr:=cX E hx
 have go:∀b oo u,a.eval x=.pointer (some ⟨b,oo,none⟩)->(loadVar t ⟨b,oo,none⟩).run P w=.ok u w->(execOp a.eval o).run P w=.ok (.value u) w:=fun b oo u h h2=>by
  simp only[execOp,ho,h,Instr.loadAt,Instr.sureAddr,Sem.run_bind,Sem.run_pure,Result.andThen_ok,h2]
 unfold ld at hv
 split at hv
 ·rename_i jW i' oo hb
  rw[hb]at hr
  obtain⟨B,h,hB,hk⟩:=iJ hr
  simp only[Option.bind_eq_some_iff]at hv
  obtain⟨cs,dx,hp⟩:=hv
  obtain⟨B',r,OI,dH,R,hi,fl,f,hf⟩:=Hp (S:=S) dx (fun B2 h2=>by rw[hB]at h2;injection h2 with h2;subst h2;exact hk)
  rw[hB]at dH;injection dH with dH;subst dH
  obtain⟨u,h1,h2⟩:=jK (w:=w) (b:=B.b) (oo:=i'*B.sz+oo) (f:=fun j=>f (oo+j)) rP hn hp (fun a ha=>fl a (List.mem_of_mem_drop ha)) (fun j hj=>by
   rw[Nat.add_assoc];exact(hf _ (by simp at hj;omega)).1) (fun j a ha=>by
   simp at ha;exact(hf _ ((List.getElem?_eq_some_iff.1 ha).1)).2 _ ha)
  exact⟨u,go _ _ _ h h1,h2⟩
 ·rename_i cs hb
  rw[hb]at hr
  obtain⟨b,oo,vs,h,h1,h2,h3,h4⟩:=j8 hr
  obtain⟨u,k1,k2⟩:=jK (w:=w) (b:=b) (oo:=oo) (f:=vs) rP hn hv h2 h3 (fun j a ha=>.ez _ _ (h4 j a ha))
  exact⟨u,go _ _ _ h k1,k2⟩
 ·simp at hv
theorem PQ {x:Operand} {x':O} (E:cF P w D ι env a) (ho:o.op=.nilCheck x) (hx:cO P x=some x') (hv:dh (cJ env x')=some v):mj P a o w D ι v:=by
 have hr:=cX E hx
 unfold dh at hv
 split at hv
 ·rename_i jW i' oo hb
  simp at hv;subst hv
  rw[hb]at hr
  obtain⟨B,h,hB,hk⟩:=iJ hr
  exact⟨_,by simp only[execOp,ho,h];rfl,.ptr _ _ _ _ hB hk⟩
 ·rename_i cs hb
  simp at hv;subst hv
  rw[hb]at hr
  obtain⟨b,oo,vs,h,_⟩:=j8 hr
  exact⟨_,by simp only[execOp,ho,h];rfl,h▸hr⟩
 ·simp at hv
theorem J5 {x i:Operand} {x' i':O} {t e:TypeId} {m:Nat} (S:fN P hs D ι g w) (E:cF P w D ι env a) (ho:o.op=.indexAddr t x i) (ht:P.underlying t=some (.slice e)) (hm:dS P e=some (m+1)) (hx:cO P x=some x') (hi:cO P i=some i')
  (hv:bj g (m+1) (cJ env x') (cJ env i')=some v):mj P a o w D ι v:=by
 have hr:=cX E hx
 have A4:=cX E hi
 have go:∀b oo n c k (q:Int),a.eval x=.slice (some ⟨b,oo,none⟩) n c->a.eval i=.int k q->0<=q->q<n->(execOp a.eval o).run P w=.ok (.value (.pointer (some ⟨b,oo+q.toNat*(m+1),none⟩))) w:=fun b oo n c k q h h2 h3 h4=>by
  simp only[execOp,ho,h,h2,Instr.indexAt,asIntOf,Sem.run_bind,Sem.run_pure,run_underlying ht,Result.andThen_ok,h3,h4,and_self,if_true,run_sizeOf hm,jt]
 unfold bj at hv
 split at hv
 ·rename_i rows k q hb qn
  split at hv
  ·rename_i hq
   simp only[Option.bind_eq_some_iff]at hv
   obtain⟨cs,dx,hv⟩:=hv
   split at hv
   ·rename_i hlen
    simp at hv;subst hv
    rw[hb]at hr;rw[qn]at A4
    have ea:=(List.getElem?_eq_some_iff.1 dx).1
    obtain⟨A,c,h,h1,h2,h3⟩:=td hr
    rcases h3 with h3|⟨b,oo,sz,vs,rfl,hD,hl,fl,hc,hi⟩
    ·subst h3;simp at dx
    have eU:sz=m+1:=by rw[<-hlen,hl cs (List.mem_of_getElem? dx)]
    refine⟨_,go b oo _ _ k q h (dz A4) hq ad,.ez _ _ (.dI cs b _ (vs q.toNat) hD (fl cs (List.mem_of_getElem? dx)) (fun j hj=>?_) (fun j a ha=>hi _ _ _ _ dx ha))⟩
    have:=hc q.toNat j ea (by rw[<-hl cs (List.mem_of_getElem? dx)];exact hj)
    rw[eU]at this
    rw[Nat.add_assoc];exact this
   ·simp at hv
  ·simp at hv
 ·rename_i jW off len k q hb qn
  split at hv
  ·rename_i hq
   simp only[Option.bind_eq_some_iff]at hv
   obtain⟨r,OI,hv⟩:=hv
   split at hv
   ·rename_i uM
    simp at hv;subst hv
    rw[hb]at hr;rw[qn]at A4
    obtain⟨oo,cap,B,h,hB,h1,h2,h3,h4,hk⟩:=gD hr
    obtain⟨B',dH,R,_,_⟩:=S.row _ _ OI
    rw[hB]at dH;injection dH with dH;subst dH
    replace R:=R.row hk
    have eU:B.sz=m+1:=R.sz.trans uM
    refine⟨_,go _ _ _ _ k q h (dz A4) hq.1 hq.2,?_⟩
    have uI:oo=off*B.sz:=by rcases h2 with h2|h2<;>omega
    have:oo+q.toNat*(m+1)=(off+q.toNat)*B.sz+0:=by rw[uI,<-eU,Nat.add_mul];rfl
    rw[this]
    exact .ptr _ _ _ _ hB hk
   ·simp at hv
  ·simp at hv
 ·simp at hv
theorem M0 {x i:Operand} {x' i':O} {t e:TypeId} {m len:Nat} (E:cF P w D ι env a) (ho:o.op=.indexAddr t x i) (ht:P.underlying t=some (.array len e)) (hm:dS P e=some (m+1)) (hx:cO P x=some x') (hi:cO P i=some i')
  (hv:bZ len (m+1) (cJ env x') (cJ env i')=some v):mj P a o w D ι v:=by
 have hr:=cX E hx
 have A4:=cX E hi
 have go:∀b oo k (q:Int),a.eval x=.pointer (some ⟨b,oo,none⟩)->a.eval i=.int k q->0<=q->q<len->(execOp a.eval o).run P w=.ok (.value (.pointer (some ⟨b,oo+q.toNat*(m+1),none⟩))) w:=fun b oo k q h h2 h3 h4=>by
  simp only[execOp,ho,h,h2,Instr.indexAt,asIntOf,Sem.run_bind,Sem.run_pure,run_underlying ht,Instr.sureAddr,Result.andThen_ok,h3,h4,and_self,if_true,run_sizeOf hm,jt]
 unfold bZ at hv
 split at hv
 ·rename_i jW r oo k q hb qn
  split at hv
  ·rename_i hq
   simp at hv;subst hv
   rw[hb]at hr;rw[qn]at A4
   obtain⟨B,h,hB,hk⟩:=iJ hr
   refine⟨_,go _ _ k q h (dz A4) hq.1 hq.2,?_⟩
   rw[Nat.add_assoc]
   exact .ptr _ _ _ _ hB hk
  ·simp at hv
 ·rename_i cs k q hb qn
  split at hv
  ·rename_i hq
   simp at hv;subst hv
   rw[hb]at hr;rw[qn]at A4
   obtain⟨b,oo,vs,h,h1,h2,h3,h4⟩:=j8 hr
   refine⟨_,go _ _ k q h (dz A4) hq.1 hq.2,.ez _ _ (.dI _ _ _ (fun j=>vs (q.toNat*(m+1)+j)) h1 (fun a ha=>h2 a (List.mem_of_mem_drop ha)) (fun j hj=>?_) (fun j a ha=>h4 _ _ (by simpa using ha)))⟩
   rw[Nat.add_assoc]
   exact h3 _ (by simp at hj;omega)
  ·simp at hv
 ·simp at hv
theorem M3 {x i:Operand} {x' i':O} {t:TypeId} (E:cF P w D ι env a) (ho:o.op=.index t x i) (ht:P.underlying t=some .string) (hx:cO P x=some x') (hi:cO P i=some i')
  (hv:ck (cJ env x') (cJ env i')=some v):mj P a o w D ι v:=by
 have hr:=cX E hx
 have A4:=cX E hi
 unfold ck at hv
 split at hv
 ·rename_i s k q hb qn
  split at hv
  ·rename_i hq
   simp only[Option.map_eq_some_iff]at hv
   obtain⟨c,hc,rfl⟩:=hv
   rw[hb]at hr;rw[qn]at A4
   refine⟨_,?_,.ez _ _ (.int _ _)⟩
   simp only[execOp,ho,eY hr,dz A4,Instr.index,asIntOf,Sem.run_bind,Sem.run_pure,run_underlying ht,Result.andThen_ok,hq,if_true,hc]
  ·simp at hv
 ·simp at hv
theorem M1 {x i:Operand} {x' i':O} {t e:TypeId} {ag:Bool} {len n:Nat} (E:cF P w D ι env a) (ho:o.op=.index t x i) (ht:P.underlying t=some (.array len e)) (rP:lY P e=some ag) (hn:dS P e=some n) (hx:cO P x=some x') (hi:cO P i=some i')
  (hv:cj ag len n (cJ env x') (cJ env i')=some v):mj P a o w D ι v:=by
 have hr:=cX E hx
 have A4:=cX E hi
 unfold cj at hv
 split at hv
 ·rename_i cs k q hb qn
  split at hv
  ·rename_i hq
   rw[hb]at hr;rw[qn]at A4
   obtain⟨vs,f,h,n1,fl,f1,r1⟩:=gV hr
   have go:∀u,(Go.part e vs (q.toNat*n)).run P w=.ok u w->(execOp a.eval o).run P w=.ok (.value u) w:=fun u hu=>by
    simp only[execOp,ho,h,dz A4,Instr.index,asIntOf,Sem.run_bind,Sem.run_pure,run_underlying ht,Result.andThen_ok,hq,and_self,if_true,run_sizeOf hn,hu]
   unfold part at hv
   cases ag with
   |true=>
    simp only[if_true]at hv
    split at hv
    ·rename_i hl
     simp at hv;subst hv
     simp only[List.length_drop]at hl
     by_cases H6:n=0
     ·subst H6
      refine⟨_,go _ (nC rP hn),.agg _ _ (fun _=>undef) (by simp) (fun a ha=>by simp at ha) (fun j hj=>by simp at hj) (fun j a ha=>by simp at ha)⟩
     refine⟨_,go _ (nC rP hn),.agg _ _ (fun j=>f (q.toNat*n+j)) (by simp[n1];omega) (fun a ha=>fl a (List.mem_of_mem_drop (List.mem_of_mem_take ha))) (fun j hj=>?_) (fun j a ha=>?_)⟩
     ·simp at hj
      rw[Array.getElem?_extract,if_pos ad];exact f1 _ ad
     ·rw[List.getElem?_take]at ha
      split at ha
      ·exact r1 _ _ (by simpa using ha)
      ·simp at ha
    ·simp at hv
   |false=>
    simp only[Bool.false_eq_true,if_false]at hv
    have lU:cs[q.toNat*n]? =some v:=by simpa[List.head?_drop]using hv
    have ea:=(List.getElem?_eq_some_iff.1 lU).1
    exact⟨_,go _ (k9 rP (f1 _ ea)),r1 _ _ lU⟩
  ·simp at hv
 ·simp at hv
theorem Fe {x:Operand} {x':O} {i:Nat} (E:cF P w D ι env a) (ho:o.op=.extract x i) (hx:cO P x=some x') (hv:au i (cJ env x')=some v):mj P a o w D ι v:=by
 have hr:=cX E hx
 unfold au at hv
 split at hv
 ·rename_i vs hb
  rw[hb]at hr
  obtain⟨us,f,h,h1,h2,h3⟩:=rV hr
  have ea:=(List.getElem?_eq_some_iff.1 hv).1
  exact⟨_,by simp only[execOp,ho,h,Instr.extract,h2 _ ea];rfl,h3 _ _ hv⟩
 ·simp at hv
theorem PU {x:Operand} {x':O} {t:TypeId} {e:TypeId} {n:Nat} (E:cF P w D ι env a) (ho:o.op=.call {callee:=.builtin .len,args:= #[x],argTypes:= #[t]}) (ht:P.underlying t=some (.slice e)) (hx:cO P x=some x') (hv:di (cJ env x')=some n):mj P a o w D ι (.int .i64 n):=by
 have hr:=cX E hx
 have go:∀A c,a.eval x=.slice A n c->(execOp a.eval o).run P w=.ok (.value (.int .i64 n)) w:=fun A c h=>by
  simp only[execOp,ho,resolve,Sem.run_bind,Sem.run_pure,Result.andThen_ok,invoke,builtin,Array.map,h]
  simp[Builtin.len_,run_underlying ht,goInt,h]
 refine⟨.int .i64 n,?_,.ez _ _ (.int _ _)⟩
 unfold di at hv
 split at hv<;>simp at hv<;>subst hv<;>rename_i hb<;>rw[hb]at hr
 ·exact go _ _ (jq hr)
 ·obtain⟨A,c,h,_⟩:=td hr;exact go _ _ h
 ·obtain⟨oo,cap,B,h,_⟩:=gD hr;exact go _ _ h
theorem M5 {x:Operand} {x':O} {t:TypeId} (E:cF P w D ι env a) (ho:o.op=.call {callee:=.builtin .len,args:= #[x],argTypes:= #[t]}) (ht:P.underlying t=some .string) (hx:cO P x=some x') (hv:cq (cJ env x')=some v):mj P a o w D ι v:=by
 have hr:=cX E hx
 unfold cq at hv
 split at hv
 ·rename_i s hb
  simp at hv;subst hv
  rw[hb]at hr
  have h:=eY hr
  refine⟨_,?_,.ez _ _ (.int _ _)⟩
  simp only[execOp,ho,resolve,Sem.run_bind,Sem.run_pure,Result.andThen_ok,invoke,builtin,Array.map,h]
  simp[Builtin.len_,run_underlying ht,goInt,h]
 ·simp at hv
theorem lE {isS:Bool} {len cap h l:Nat} {lo hi:Option Operand} {KJ mK:Option O} (E:cF P w D ι env a) (jH:o6 P lo=some KJ) (zJ:o6 P hi=some mK) (hh:cZ len (mK.map (cJ env))=some h) (hl:da h (KJ.map (cJ env))=some l) (hc:len<=cap):
  (Instr.sliceBounds isS len cap (lo.map a.eval) (hi.map a.eval) none).run P w=.ok (l,h,cap) w/\l<=h/\h<=len:=by
 have bound:∀(x:Operand) (y:O) (k:IntKind) (n:Int) (m:Nat) (c:BoundsCode),cO P x=some y->cJ env y=.int k n->0<=n->n<=m->(Instr.sliceBound (a.eval x) m c).run P w=.ok n.toNat w:=fun x y k n m c hx hy h0 h1=>by
  have hr:=cX E hx
  rw[hy]at hr
  simp only[Instr.sliceBound,dz hr,asIntOf,Sem.run_bind,Sem.run_pure,Result.andThen_ok,h0,h1,and_self,if_true]
 have H:h<=len/\((hi=none/\h=len)∨∃x,hi=some x/\∀c,(Instr.sliceBound (a.eval x) cap c).run P w=.ok h w):=by
  cases hi with
  |none=>
   simp[o6]at zJ;subst zJ
   simp[cZ]at hh;subst hh
   exact⟨Nat.le_refl _,.inl ⟨rfl,rfl⟩⟩
  |some x=>
   simp only[o6,Option.map_eq_some_iff]at zJ
   obtain⟨y,hy,rfl⟩:=zJ
   simp only[Option.map_some,cZ]at hh
   split at hh
   ·rename_i e;cases e
   ·rename_i k n e
    injection e with e
    split at hh
    ·rename_i hn
     simp at hh;subst hh
     exact⟨ad,.inr ⟨x,rfl,fun c=>bound x y k n _ _ hy e hn.1 ad⟩⟩
    ·simp at hh
   ·simp at hh
 have L:l<=h/\((lo=none/\l=0)∨∃x,lo=some x/\∀c,(Instr.sliceBound (a.eval x) h c).run P w=.ok l w):=by
  cases lo with
  |none=>
   simp[o6]at jH;subst jH
   simp[da]at hl;subst hl
   exact⟨Nat.zero_le _,.inl ⟨rfl,rfl⟩⟩
  |some x=>
   simp only[o6,Option.map_eq_some_iff]at jH
   obtain⟨y,hy,rfl⟩:=jH
   simp only[Option.map_some,da]at hl
   split at hl
   ·rename_i e;cases e
   ·rename_i k n e
    injection e with e
    split at hl
    ·rename_i hn
     simp at hl;subst hl
     exact⟨ad,.inr ⟨x,rfl,fun c=>bound x y k n h _ hy e hn.1 hn.2⟩⟩
    ·simp at hl
   ·simp at hl
 refine⟨?_,L.1,H.1⟩
 unfold Instr.sliceBounds
 rcases H.2 with⟨rfl,rfl⟩|⟨x,rfl,hx⟩<;>rcases L.2 with⟨rfl,rfl⟩|⟨y,rfl,hy⟩<;>
  simp only[Option.map_none,Option.map_some,Sem.run_bind,Sem.run_pure,Result.andThen_ok, *]
theorem J6 {x:Operand} {x':O} {lo hi:Option Operand} {KJ mK:Option O} {t e:TypeId} {m:Nat} (S:fN P hs D ι g w) (E:cF P w D ι env a) (ho:o.op=.slice t x lo hi none) (ht:P.underlying t=some (.slice e)) (hm:dS P e=some m) (hx:cO P x=some x') (jH:o6 P lo=some KJ) (zJ:o6 P hi=some mK)
  (hv:bl g m (cJ env x') (KJ.map (cJ env)) (mK.map (cJ env))=some v):mj P a o w D ι v:=by
 have hr:=cX E hx
 have go:∀A len cap l h,a.eval x=.slice A len cap->(Instr.sliceBounds true len cap (lo.map a.eval) (hi.map a.eval) none).run P w=.ok (l,h,cap) w->(execOp a.eval o).run P w=.ok (.value (.slice (if cap=l then A else A.map (·.add (l*m))) (h-l) (cap-l))) w:=fun A len cap l h h1 h2=>by
  simp only[execOp,ho,h1,Instr.sliceAt,Instr.slice,Sem.run_bind,Sem.run_pure,run_underlying ht,Result.andThen_ok,Option.map_none,h2,run_sizeOf hm]
 unfold bl at hv
 split at hv
 ·rename_i hb
  rw[hb]at hr
  simp only[Option.bind_eq_some_iff,Option.map_eq_some_iff]at hv
  obtain⟨h,hh,l,hl,rfl⟩:=hv
  obtain⟨q,q1,q2⟩:=lE (w:=w) (isS:=true) (cap:=0) E jH zJ hh hl (Nat.le_refl _)
  have h0:h=0:=ad
  have l0:l=0:=ad
  subst h0;subst l0
  refine⟨_,go _ _ _ _ _ (jq hr) q,?_⟩
  simp;exact .ez _ _ .cK
 ·rename_i rows hb
  rw[hb]at hr
  simp only[Option.bind_eq_some_iff,Option.map_eq_some_iff]at hv
  obtain⟨h,hh,l,hl,hv⟩:=hv
  split at hv
  ·rename_i dy
   simp at hv;subst hv
   obtain⟨A,c,he,c1,c2,h3⟩:=td hr
   obtain⟨q,q1,q2⟩:=lE (w:=w) (isS:=true) (cap:=c) E jH zJ hh hl c1
   refine⟨_,go _ _ _ _ _ he q,.ez _ _ ?_⟩
   have hlen:((rows.drop l).take (h-l)).length=h-l:=by simp;omega
   by_cases hz:h-l=0
   ·have:(rows.drop l).take (h-l)=[]:=by rw[hz];simp
    rw[this,hz]
    exact .zP _ _ ad
   ·rcases h3 with h3|⟨b,oo,sz,vs,rfl,hD,xo,fl,hc,hi⟩
    ·subst h3;simp at q2;omega
    rw[if_neg ad]
    simp only[Option.map_some,jt]
    have yC:sz=m:=by
     have ea:l<rows.length:=ad
     have:=dy rows[l] (List.getElem_mem ea)
     rw[<-this,xo _ (List.getElem_mem ea)]
    subst yC
    refine .sl _ b _ _ _ sz (fun i j=>vs (l+i) j) hlen ad ad hD (fun cs dx=>xo cs (List.mem_of_mem_drop (List.mem_of_mem_take dx))) (fun cs dx=>fl cs (List.mem_of_mem_drop (List.mem_of_mem_take dx))) (fun i j hi hj=>?_) (fun i j cs a dx ha=>?_)
    ·rw[<-hc (l+i) j ad hj,Nat.add_mul]
     congr 2;omega
    ·rw[List.getElem?_take]at dx
     split at dx
     ·exact hi _ _ _ _ (by simpa using dx) ha
     ·simp at dx
  ·simp at hv
 ·rename_i jW off len hb
  rw[hb]at hr
  simp only[Option.bind_eq_some_iff,Option.map_eq_some_iff]at hv
  obtain⟨r,OI,h,hh,l,hl,hv⟩:=hv
  split at hv
  ·rename_i uM
   simp at hv;subst hv
   obtain⟨oo,cap,B,he,hB,h1,h2,h3,h4,hk⟩:=gD hr
   obtain⟨B',dH,R,_,_⟩:=S.row _ _ OI
   rw[hB]at dH;injection dH with dH;subst dH
   replace R:=R.row hk
   have eU:B.sz=m:=R.sz.trans uM
   obtain⟨q,q1,q2⟩:=lE (w:=w) (isS:=true) (cap:=cap) E jH zJ hh hl h1
   refine⟨_,go _ _ _ _ _ he q,?_⟩
   have e1:(off+l+(cap-l))*B.sz<=B.C:=by rw[show off+l+(cap-l)=off+cap by omega];exact h3
   by_cases kY:cap=l
   ·rw[if_pos kY]
    exact .own _ _ _ _ _ B hB hk ad (.inl ad) e1 ad
   ·rw[if_neg kY]
    simp only[Option.map_some,jt]
    have uI:oo=off*B.sz:=by rcases h2 with h2|h2<;>omega
    exact .own _ _ _ _ _ B hB hk ad (.inr (by rw[uI,eU,Nat.add_mul])) e1 ad
  ·simp at hv
 ·simp at hv
theorem HU {x:Operand} {x':O} {lo hi:Option Operand} {KJ mK:Option O} {t:TypeId} (E:cF P w D ι env a) (ho:o.op=.slice t x lo hi none) (ht:P.underlying t=some .string) (hx:cO P x=some x') (jH:o6 P lo=some KJ) (zJ:o6 P hi=some mK)
  (hv:aI (cJ env x') (KJ.map (cJ env)) (mK.map (cJ env))=some v):mj P a o w D ι v:=by
 have hr:=cX E hx
 unfold aI at hv
 split at hv
 ·rename_i s hb
  rw[hb]at hr
  simp only[Option.bind_eq_some_iff,Option.map_eq_some_iff]at hv
  obtain⟨h,hh,l,hl,rfl⟩:=hv
  obtain⟨q,_,_⟩:=lE (w:=w) (isS:=false) E jH zJ hh hl (Nat.le_refl _)
  refine⟨_,?_,.ez _ _ (.str _)⟩
  simp only[execOp,ho,eY hr,Instr.sliceAt,Instr.slice,Sem.run_bind,Sem.run_pure,run_underlying ht,Result.andThen_ok,Option.map_none,Option.isSome_none,Bool.false_eq_true,if_false,q]
 ·simp at hv
theorem Bz {xs:List Operand} {ys:List O} (E:cF P w D ι env a) (h:xs.mapM (cO P)=some ys):(xs.map a.eval).length=ys.length/\∀j y,ys[j]? =some y->cQ P w D ι (cJ env y) ((xs.map a.eval).getD j undef):=by
 induction xs generalizing ys with
 |nil=>simp at h;subst h;simp
 |cons x r ih=>
  simp only[List.mapM_cons,Option.bind_eq_bind,Option.bind_eq_some_iff]at h
  obtain⟨c,hc,oa,dx,h⟩:=h
  simp at h;subst h
  obtain⟨h1,h2⟩:=ih dx
  refine⟨by simpa using h1,fun j d hd=>?_⟩
  cases j with
  |zero=>simp at hd ⊢;subst hd;exact cX E hc
  |succ j=>simp at hd ⊢;simpa using h2 j d hd
theorem M8 {f:Nat} {first cP:Array Operand} {xP:List O} (E:cF P w D ι env a) (ho:o.op=.makeFunc (.func f) first cP) (hf:first= #[]) (hc:fc P f=true) (hx:cP.toList.mapM (cO P)=some xP):mj P a o w D ι (.fn f (xP.map (cJ env))):=by
 subst hf
 obtain⟨h1,h2⟩:=Bz E hx
 refine⟨.func (.func f) #[] (cP.map a.eval),by simp only[execOp,ho,Instr.makeFunc,Sem.run_bind,Sem.run_pure,Result.andThen_ok];simp,.fn _ _ _ (fun j=>(cP.toList.map a.eval).getD j undef) hc (by simpa using h1) (fun j hj=>?_) (fun j x NF=>?_)⟩
 ·simp at hj h1
  have:j<cP.size:=ad
  simp[this]
 ·simp only[List.getElem?_map,Option.map_eq_some_iff]at NF
  obtain⟨y,hy,rfl⟩:=NF
  exact h2 j y hy
theorem M9 {f:Nat} {first cP:Array Operand} {xP:List O} (E:cF P w D ι env a) (ho:o.op=.makeFunc (.func f) first cP) (hf:cP= #[]) (hc:fc P f=true) (hx:first.toList.mapM (cO P)=some xP):mj P a o w D ι (.tN f (xP.map (cJ env))):=by
 subst hf
 obtain⟨h1,h2⟩:=Bz E hx
 refine⟨.func (.func f) (first.map a.eval) #[],by simp only[execOp,ho,Instr.makeFunc,Sem.run_bind,Sem.run_pure,Result.andThen_ok];simp,.tN _ _ _ (fun j=>(first.toList.map a.eval).getD j undef) hc (by simpa using h1) (fun j hj=>?_) (fun j x NF=>?_)⟩
 ·simp at hj h1
  have:j<first.size:=ad
  simp[this]
 ·simp only[List.getElem?_map,Option.map_eq_some_iff]at NF
  obtain⟨y,hy,rfl⟩:=NF
  exact h2 j y hy
end
end Go.Proofs.YtphenfakmdknlaaGreat.V

namespace Go.Proofs.YtphenfakmdknlaaGreat.V
open Go.RowKit
variable {P:Program} {w w':World} {D D':Nat->Prop} {ι ι':Names}
def Mk (P:Program) (a:Act) (o:Oper) (w:World) (D:Nat->Prop) (ι:Names) (id:Id) (v:AV) (r:Row):Prop:=
 ∃u cells T,(execOp a.eval o).run P w=.ok (.value u) (w.alloc (.cells cells T))/\r.w=true/\r.rows.length*r.sz<=cells.size/\(∀cs∈r.rows,cs.length=r.sz)/\(∀cs∈r.rows,∀a∈cs,a.cell=true)/\
  (∀i j cs a,r.rows[i]? =some cs->cs[j]? =some a->∃x,cells[i*r.sz+j]? =some x/\cQ P w D ι a x)/\∀ι':Names,ι' id=some ⟨w.heap.size,r.sz,cells.size,none⟩->cQ P w D ι' v u
section
variable {g:Rows} {hs:Nat} {env:Env} {a:Act} {o:Oper} {id:Id} {v:AV}
theorem kL {vs:List Value} {cs:List K} (h:vs.mapM D9=some cs):eP P w D ι (cs.map K.av) vs.toArray:=by
 obtain⟨h1,h2⟩:=pD h
 refine⟨by simp[h1],fun j a ha=>?_⟩
 simp only[List.getElem?_map,Option.map_eq_some_iff]at ha
 obtain⟨c,hc,rfl⟩:=ha
 exact⟨c.val,by simpa using h2 j c hc,ta c⟩
theorem jf {t:TypeId} {z:List K} (h:iT P t=some z):∃i v,P.info? t=some i/\i.zero=some v/\v.cells.size=i.size/\v.cells.toList.mapM D9=some z/\z.length=i.size:=by
 unfold iT at h
 split at h
 ·rename_i i hi
  split at h
  ·rename_i v hv
   split at h
   ·rename_i hs
    exact⟨i,v,hi,hv,hs,h,by rw[(pD h).1];simpa using hs⟩
   ·simp at h
  ·simp at h
 ·simp at h
theorem CQ {cs:List AV} {cells:Array Value} (h:eP P w D ι cs cells):∀i j c a,[cs][i]? =some c->c[j]? =some a->∃x,cells[i*cs.length+j]? =some x/\cQ P w D ι a x:=by
 intro i j c a hi hj
 cases i with
 |zero=>simp at hi;subst hi;simpa using h.2 j a hj
 |succ i=>simp at hi
theorem Pt {t:TypeId} {z:List K} (ho:o.op=.alloc t) (hz:iT P t=some z):Mk P a o w D ι id (.ptr id 0 0) ⟨true,z.length,[z.map K.av]⟩:=by
 obtain⟨i,v,hi,hv,hs,hm,hl⟩:=jf hz
 have hk:=kL (P:=P) (w:=w) (D:=D) (ι:=ι) hm
 refine⟨.pointer (some ⟨w.heap.size,0,none⟩),v.cells,t,?_,rfl,?_,?_,?_,?_,?_⟩
 ·simp only[execOp,ho,Instr.alloc,zeroValue,typeInfo,Sem.run_bind]
  simp[hi,hv,newVar,newRow]
 ·simp[hl,hs]
 ·intro cs dx;simp at dx;subst dx;simp
 ·intro cs dx x hx;simp at dx;subst dx
  obtain⟨c,_,rfl⟩:=List.mem_map.1 hx;exact c.lk
 ·have:=CQ hk;simpa using this
 ·intro ι' hι
  have:=cQ.ptr (P:=P) (w:=w) (D:=D) (ι:=ι') id 0 0 _ hι rfl
  simpa using this
theorem oQ {x:AV} {u:Value} (h:cQ P w D ι x u) (hc:x.cells.all AV.cell=true):eP P w D ι x.cells u.cells:=by
 obtain⟨h1,f,h2,h3⟩:=h.cells hc
 exact⟨h1,fun j a ha=>⟨f j,h2 j (List.getElem?_eq_some_iff.1 ha).1,h3 j a ha⟩⟩
theorem Pr {t:TypeId} {x:Operand} {x':O} {cs:List AV} (E:cF P w D ι env a) (ho:o.op=.box t x) (hx:cO P x=some x') (hb:bW (cJ env x')=some cs):Mk P a o w D ι id (.ptr id 0 0) ⟨true,cs.length,[cs]⟩:=by
 have hr:=cX E hx
 unfold bW at hb
 split at hb
 ·rename_i dy
  simp at hb;subst hb
  have hk:=oQ hr dy
  refine⟨.pointer (some ⟨w.heap.size,0,none⟩),(a.eval x).cells,t,?_,rfl,?_,?_,?_,?_,?_⟩
  ·simp only[execOp,ho,Instr.box,Sem.run_bind]
   simp[newVar,newRow]
  ·simp[hk.1]
  ·intro cs dx;simp at dx;subst dx;rfl
  ·intro cs dx y hy;simp at dx;subst dx
   exact List.all_eq_true.1 dy y hy
  ·exact CQ hk
  ·intro ι' hι
   have:=cQ.ptr (P:=P) (w:=w) (D:=D) (ι:=ι') id 0 0 _ hι rfl
   simpa using this
 ·simp at hb
theorem foldl_set:∀(vs:List Value) (n off:Nat) (cells:Array Value),off+n+vs.length<=cells.size->((vs.zipIdx n).foldl (fun cs (x:Value×Nat)=>cs.setIfInBounds (off+x.2) x.1) cells).size=cells.size/\
  ∀k,((vs.zipIdx n).foldl (fun cs (x:Value×Nat)=>cs.setIfInBounds (off+x.2) x.1) cells)[k]? =if off+n<=k/\k<off+n+vs.length then vs[k-(off+n)]? else cells[k]?
 |[],n,off,cells,_=>⟨rfl,fun k=>by simp;intro h1 h2;omega⟩
 |v::r,n,off,cells,h=>by
  simp only[List.length_cons]at h
  obtain⟨h1,h2⟩:=foldl_set r (n+1) off (cells.setIfInBounds (off+n) v) (by simp;omega)
  simp only[List.zipIdx_cons,List.foldl_cons]
  refine⟨by rw[h1];simp,fun k=>?_⟩
  rw[h2 k]
  simp only[List.length_cons]
  by_cases hk:k=off+n
  ·subst hk
   rw[if_neg ad,if_pos ad]
   simp[show off+n<cells.size by omega]
  ·by_cases rR:off+n<=k/\k<off+n+(r.length+1)
   ·rw[if_pos ad,if_pos rR]
    have:k-(off+n)=(k-(off+(n+1)))+1:=ad
    rw[this,List.getElem?_cons_succ]
   ·rw[if_neg ad,if_neg rR,Array.getElem?_setIfInBounds_ne ad]
theorem su (place:Nat->Option (Nat×Nat)):∀(ps:List (Nat×Value)) (qs:List (Nat×Nat×AV)) (cells:Array Value) (cs res:List AV),eP P w D ι cs cells->(∀a∈cs,a.cell=true)->ps.length=qs.length->
  (∀(k:Nat) i u o' n x,ps[k]? =some (i,u)->qs[k]? =some (o',n,x)->place i=some (o',n)/\cQ P w D ι x u)->bJ cs qs=some res->∃iA,Instr.fill place cells ps=some iA/\eP P w D ι res iA/\(∀a∈res,a.cell=true)/\res.length=cs.length:=by
 intro ps
 induction ps with
 |nil=>
  intro qs cells cs res hR hf hl _ hv
  cases qs with
  |nil=>simp[bJ]at hv;subst hv;exact⟨cells,rfl,hR,hf,rfl⟩
  |cons q r=>simp at hl
 |cons p ps ih=>
  intro qs cells cs res hR hf hl hp hv
  cases qs with
  |nil=>simp at hl
  |cons q qs=>
   obtain⟨i,u⟩:=p
   obtain⟨oo,n,x⟩:=q
   obtain⟨lx,hr⟩:=hp 0 i u oo n x rfl rfl
   unfold bJ at hv
   split at hv
   ·rename_i hc
    obtain⟨c1,c2,c3⟩:=hc
    have hk:=oQ hr c3
    have I0:u.cells.size=n:=by rw[hk.1,c1]
    have dx:cells.size=cs.length:=hR.1
    unfold Instr.fill
    simp only[lx]
    rw[if_neg (by rw[I0,dx];simp;omega)]
    obtain⟨s1,s2⟩:=foldl_set u.cells.toList 0 oo cells (by simp;omega)
    have e0:(u.cells.zipIdx.foldl (fun cs (x:Value×Nat)=>cs.setIfInBounds (oo+x.2) x.1) cells)=(u.cells.toList.zipIdx 0).foldl (fun cs (x:Value×Nat)=>cs.setIfInBounds (oo+x.2) x.1) cells:=by
     rw[<-Array.foldl_toList];simp
    have Cy:=ih qs (u.cells.zipIdx.foldl (fun cs (x:Value×Nat)=>cs.setIfInBounds (oo+x.2) x.1) cells) (cs.take oo++x.cells++cs.drop (oo+n)) res ?_ ?_ (by simpa using hl) (fun k i u o' n x h1 h2=>hp (k+1) i u o' n x (by simpa using h1) (by simpa using h2)) hv
    ·obtain⟨iA,h1,h2,h3,h4⟩:=Cy
     refine⟨iA,h1,h2,h3,?_⟩
     rw[h4];simp;omega
    ·rw[e0]
     refine⟨by rw[s1,dx];simp;omega,fun j a ha=>?_⟩
     rw[s2 j]
     simp only[Nat.add_zero,Array.length_toList]
     by_cases hj:oo<=j/\j<oo+u.cells.size
     ·rw[if_pos hj]
      rw[List.append_assoc,List.getElem?_append_right (by simp;omega),List.getElem?_append_left (by simp;omega)]at ha
      simp only[List.length_take]at ha
      rw[show min oo cs.length=oo by omega]at ha
      simpa using hk.2 _ _ ha
     ·rw[if_neg hj]
      by_cases Ku:j<oo
      ·rw[List.append_assoc,List.getElem?_append_left (by simp;omega),List.getElem?_take,if_pos Ku]at ha
       exact hR.2 _ _ ha
      ·rw[List.getElem?_append_right (by simp;omega)]at ha
       simp only[List.length_append,List.length_take,List.getElem?_drop]at ha
       rw[show oo+n+(j-(min oo cs.length+x.cells.length))=j by omega]at ha
       exact hR.2 _ _ ha
    ·intro b hb
     rcases List.mem_append.1 hb with hb|hb
     ·rcases List.mem_append.1 hb with hb|hb
      ·exact hf b (List.mem_of_mem_take hb)
      ·exact List.all_eq_true.1 c3 b hb
     ·exact hf b (List.mem_of_mem_drop hb)
   ·simp at hv
theorem tU {fs:List Field} (h:∀f∈fs,(P.info? f.type).isSome=true):∃wP,fs.mapM (fun f=>(P.info? f.type).map fun i=>(f.offset,i.size))=some wP/\∀(i:Nat) (f:Field) (n:Nat),fs[i]? =some f->dS P f.type=some n->wP[i]? =some (f.offset,n):=by
 induction fs with
 |nil=>exact⟨[],rfl,fun i f n h=>by simp at h⟩
 |cons f r ih=>
  obtain⟨q,h1,h2⟩:=ih (fun x hx=>h x (List.mem_cons_of_mem _ hx))
  obtain⟨i,hi⟩:=Option.isSome_iff_exists.1 (h f (by simp))
  refine⟨(f.offset,i.size)::q,by simp[hi,h1],fun k x n hk hn=>?_⟩
  cases k with
  |zero=>simp at hk;subst hk;simp[dS,hi]at hn;subst hn;rfl
  |succ k=>simp at hk ⊢;exact h2 k x n hk hn
theorem ox {ps:List (Nat×Operand)} {l:List (Nat×O)} (E:cF P w D ι env a) (h:ps.mapM (fun(x:Nat×Operand)=>(cO P x.2).map (x.1,·))=some l):l.length=ps.length/\∀(k i:Nat) (y:O),l[k]? =some (i,y)->∃x,ps[k]? =some (i,x)/\cO P x=some y:=by
 induction ps generalizing l with
 |nil=>simp at h;subst h;simp
 |cons p r ih=>
  simp only[List.mapM_cons,Option.bind_eq_bind,Option.bind_eq_some_iff]at h
  obtain⟨c,hc,oa,dx,h⟩:=h
  simp at h;subst h
  obtain⟨h1,h2⟩:=ih dx
  simp only[Option.map_eq_some_iff]at hc
  obtain⟨y,hy,rfl⟩:=hc
  refine⟨by simp[h1],fun k i z hk=>?_⟩
  cases k with
  |zero=>simp at hk;obtain⟨rfl,rfl⟩:=hk;exact⟨p.2,rfl,hy⟩
  |succ k=>simp at hk ⊢;exact h2 k i z hk
theorem Al {fs:Array Field} {l:List (Nat×O)} {q:List (Nat×Nat×O)} (h:qf P fs l=some q):q.length=l.length/\∀(k oo n:Nat) (y:O),q[k]? =some (oo,n,y)->∃(i:Nat) (f:Field),l[k]? =some (i,y)/\fs[i]? =some f/\f.offset=oo/\dS P f.type=some n:=by
 induction l generalizing q with
 |nil=>simp[qf]at h;subst h;simp
 |cons p r ih=>
  obtain⟨i,x⟩:=p
  unfold qf at h
  split at h
  ·rename_i f hf
   split at h
   ·rename_i n hn
    simp only[Option.map_eq_some_iff]at h
    obtain⟨q',Fh,rfl⟩:=h
    obtain⟨h1,h2⟩:=ih Fh
    refine⟨by simp[h1],fun k oo m y hk=>?_⟩
    cases k with
    |zero=>simp at hk;obtain⟨rfl,rfl,rfl⟩:=hk;exact⟨i,f,rfl,hf,rfl,hn⟩
    |succ k=>simp only[List.getElem?_cons_succ]at hk ⊢;exact h2 k oo m y hk
   ·simp at h
  ·simp at h
theorem eP.agg {xs:List AV} {vs:Array Value} (h:eP P w D ι xs vs) (hf:∀a∈xs,a.cell=true):cQ P w D ι (.agg xs) (.agg vs):=
 .agg xs vs (fun j=>vs.getD j undef) h.1 hf (fun j hj=>by
  have:j<vs.size:=by rw[h.1];exact hj
  simp[this]) (fun j a ha=>by
  obtain⟨u,h1,h2⟩:=h.2 j a ha
  simpa[Array.getD_eq_getD_getElem?,h1]using h2)
theorem J2 {t:TypeId} {ps:Array (Nat×Operand)} {fs:Array Field} {z:List K} {l:List (Nat×O)} {q:List (Nat×Nat×O)} {cs:List AV} (E:cF P w D ι env a) (ho:o.op=.build t ps) (ht:P.underlying t=some (.struct fs)) (hz:iT P t=some z) (hl:qi P ps=some l)
  (pf:∀f∈fs.toList,(P.info? f.type).isSome=true) (hq:qf P fs l=some q) (hv:bJ (z.map K.av) (q.map fun(o,n,x)=>(o,n,cJ env x))=some cs):mj P a o w D ι (.agg cs):=by
 obtain⟨it,zv,hi,sL,hs,hm,yM⟩:=jf hz
 obtain⟨wP,lx,RZ⟩:=tU pf
 have hk:=kL (P:=P) (w:=w) (D:=D) (ι:=ι) hm
 obtain⟨n1,r1⟩:=ox E hl
 obtain⟨n2,r2⟩:=Al hq
 obtain⟨iA,h1,h2,h3,_⟩:=su (P:=P) (w:=w) (D:=D) (ι:=ι) (wP.toArray[·]?) (ps.toList.map fun(i,x)=>(i,a.eval x)) (q.map fun(o,n,x)=>(o,n,cJ env x)) zv.cells _ cs (by simpa using hk)
  (fun b hb=>by obtain⟨c,_,rfl⟩:=List.mem_map.1 hb;exact c.lk) (by simp[n2,n1]) (fun k i u o' n x rD rR=>by
   simp only[List.getElem?_map,Option.map_eq_some_iff]at rD rR
   obtain⟨⟨i',x'⟩,hp,e1⟩:=rD
   obtain⟨⟨o2,n',y⟩,Fh,e2⟩:=rR
   simp only[Prod.mk.injEq]at e1 e2
   obtain⟨rfl,rfl⟩:=e1
   obtain⟨rfl,rfl,rfl⟩:=e2
   obtain⟨i2,f,CB,hf,rfl,hn⟩:=r2 _ _ _ _ Fh
   obtain⟨x2,xp,hc⟩:=r1 _ _ _ CB
   rw[hp]at xp
   simp only[Option.some.injEq,Prod.mk.injEq]at xp
   obtain⟨rfl,rfl⟩:=xp
   exact⟨by simpa using RZ _ _ _ (by simpa using hf) hn,cX E hc⟩) hv
 refine⟨.agg iA,?_,h2.agg h3⟩
 have hb:P.built t ((ps.map fun(i,x)=>(i,a.eval x)).toList)=some iA:=by
  unfold Program.built
  simp only[hi,ht,sL,lx]
  simpa using h1
 simp only[execOp,ho,Sem.run_bind,run_build w t _ _ hb,Result.andThen_ok,Sem.run_pure]
theorem HT {t e:TypeId} {len n:Nat} {ps:Array (Nat×Operand)} {z:List K} {l:List (Nat×O)} {cs:List AV} (E:cF P w D ι env a) (ho:o.op=.build t ps) (ht:P.underlying t=some (.array len e)) (hz:iT P t=some z) (hl:qi P ps=some l) (hn:dS P e=some n)
  (hv:bJ (z.map K.av) ((l.map fun(x:Nat×O)=>(x.1*n,n,x.2)).map fun(o,n,x)=>(o,n,cJ env x))=some cs):mj P a o w D ι (.agg cs):=by
 obtain⟨it,zv,hi,sL,hs,hm,yM⟩:=jf hz
 have hk:=kL (P:=P) (w:=w) (D:=D) (ι:=ι) hm
 obtain⟨n1,r1⟩:=ox E hl
 obtain⟨ie,Kq,eU⟩:∃ie,P.info? e=some ie/\ie.size=n:=by simpa[dS]using hn
 obtain⟨iA,h1,h2,h3,_⟩:=su (P:=P) (w:=w) (D:=D) (ι:=ι) (fun i=>some (i*ie.size,ie.size)) (ps.toList.map fun(i,x)=>(i,a.eval x)) ((l.map fun(x:Nat×O)=>(x.1*n,n,x.2)).map fun(o,n,x)=>(o,n,cJ env x)) zv.cells _ cs (by simpa using hk)
  (fun b hb=>by obtain⟨c,_,rfl⟩:=List.mem_map.1 hb;exact c.lk) (by simp[n1]) (fun k i u o' n' x rD rR=>by
   simp only[List.getElem?_map,Option.map_eq_some_iff]at rD rR
   obtain⟨⟨i',x'⟩,hp,e1⟩:=rD
   obtain⟨⟨o2,n2,y⟩,⟨⟨i2,y2⟩,CB,e3⟩,e2⟩:=rR
   simp only[Prod.mk.injEq]at e1 e2 e3
   obtain⟨rfl,rfl⟩:=e1
   obtain⟨rfl,rfl,rfl⟩:=e2
   obtain⟨rfl,rfl,rfl⟩:=e3
   obtain⟨x2,xp,hc⟩:=r1 _ _ _ CB
   rw[hp]at xp
   simp only[Option.some.injEq,Prod.mk.injEq]at xp
   obtain⟨rfl,rfl⟩:=xp
   exact⟨by rw[eU],cX E hc⟩) hv
 refine⟨.agg iA,?_,h2.agg h3⟩
 have hb:P.built t ((ps.map fun(i,x)=>(i,a.eval x)).toList)=some iA:=by
  unfold Program.built
  simp only[hi,ht,sL,Kq]
  simpa using h1
 simp only[execOp,ho,Sem.run_bind,run_build w t _ _ hb,Result.andThen_ok,Sem.run_pure]
theorem ss:∀(vs:List AV) (sz i:Nat) (rs:List (List AV)) (cs:List AV),0<sz->cs.length=(i+vs.length)*sz->rowsOf sz vs=some rs->
  bJ cs ((vs.zipIdx i).map fun(v,j)=>(j*sz,sz,v))=some (cs.take (i*sz)++rs.flatten)/\rs.length=vs.length/\(∀c∈rs,c.length=sz)/\∀c∈rs,∀x∈c,x.cell=true
 |[],sz,i,rs,cs,_,hl,h=>by
  simp[rowsOf]at h;subst h
  simp at hl
  simp[bJ,List.take_of_length_le (show cs.length<=i*sz by omega)]
 |v::r,sz,i,rs,cs,eU,hl,h=>by
  simp only[rowsOf,Option.bind_eq_some_iff,Option.map_eq_some_iff]at h
  obtain⟨c,hc,rs',uM,rfl⟩:=h
  unfold rowOf at hc
  split at hc
  ·rename_i v7
   simp at hc;subst hc
   obtain⟨qo,yp⟩:=v7
   simp only[List.length_cons]at hl
   have hmul:(i+(r.length+1))*sz=i*sz+sz+r.length*sz:=by rw[Nat.add_mul,Nat.add_mul];omega
   have ih:=ss r sz (i+1) rs' (cs.take (i*sz)++v.cells++cs.drop (i*sz+sz)) eU (by
    simp[qo];rw[Nat.add_mul,Nat.add_mul];omega) uM
   refine⟨?_,by simp[ih.2.1],?_,?_⟩
   ·simp only[List.zipIdx_cons,List.map_cons,bJ]
    rw[if_pos ⟨qo,ad,yp⟩,ih.1]
    congr 1
    rw[List.flatten_cons,<-List.append_assoc]
    congr 1
    rw[Nat.add_mul,Nat.one_mul,List.take_append_of_le_length (by simp[qo];omega)]
    rw[List.take_of_length_le (by simp[qo];omega)]
   ·intro c' jT;rcases List.mem_cons.1 jT with rfl|jT
    ·exact qo
    ·exact ih.2.2.1 c' jT
   ·intro c' jT;rcases List.mem_cons.1 jT with rfl|jT
    ·exact List.all_eq_true.1 yp
    ·exact ih.2.2.2 c' jT
  ·simp at hc
theorem flat_get {α:Type} {mz:List (List α)} {sz:Nat} (h:∀cs∈mz,cs.length=sz) {i j:Nat} {cs:List α} {a:α} (hi:mz[i]? =some cs) (hj:cs[j]? =some a):mz.flatten[i*sz+j]? =some a:=by
 induction mz generalizing i with
 |nil=>simp at hi
 |cons c r ih=>
  have hc:c.length=sz:=h c (by simp)
  cases i with
  |zero=>
   simp at hi;subst hi
   have ea:=(List.getElem?_eq_some_iff.1 hj).1
   rw[List.flatten_cons,List.getElem?_append_left ad];simpa using hj
  |succ i=>
   rw[List.flatten_cons,List.getElem?_append_right (by rw[hc,Nat.succ_mul];omega)]
   have:(i+1)*sz+j-c.length=i*sz+j:=by rw[hc,Nat.succ_mul];omega
   rw[this]
   exact ih (fun cs dx=>h cs (List.mem_cons_of_mem _ dx)) (by simpa using hi)
theorem F6 {α:Type} {mz:List (List α)} {sz:Nat} (h:∀cs∈mz,cs.length=sz):mz.flatten.length=mz.length*sz:=by
 induction mz with
 |nil=>simp
 |cons c r ih=>
  rw[List.flatten_cons,List.length_append,h c (by simp),ih (fun cs dx=>h cs (List.mem_cons_of_mem _ dx)),List.length_cons,Nat.succ_mul];omega
theorem nk {zv:Value} {z:List K} {n:Nat} (hm:zv.cells.toList.mapM D9=some z) (jo:0<z.length):∀k,k<n->∃c,z[k % z.length]? =some c/\((Array.range n).map (zv.cells[· % zv.cells.size]!))[k]? =some c.val:=by
 intro k hk
 obtain⟨h1,h2⟩:=pD hm
 have eU:zv.cells.size=z.length:=by simpa using h1.symm
 have ea:k % z.length<z.length:=Nat.mod_lt _ jo
 refine⟨z[k % z.length],List.getElem?_eq_getElem ea,?_⟩
 have h3:=h2 _ _ (List.getElem?_eq_getElem ea)
 simp only[Array.getElem?_toList]at h3
 have yz:k % z.length<zv.cells.size:=by rw[eU];exact ea
 rw[Array.getElem?_map,Array.getElem?_range,if_pos hk]
 simp only[Option.map_some]
 rw[eU,getElem!_pos zv.cells (k % z.length) yz]
 rw[Array.getElem?_eq_getElem yz]at h3
 exact h3
theorem GW {t e:TypeId} {len sz:Nat} {ps:Array (Nat×Operand)} {z:List K} {l:List (Nat×O)} {rs:List (List AV)} (E:cF P w D ι env a) (ho:o.op=.buildSlice t len ps) (ht:P.underlying t=some (.slice e)) (eU:dS P e=some (sz+1)) (hz:iT P e=some z)
  (hl:qi P ps=some l) (pj:len*(sz+1)<=4096) (O6:l.map (·.1)=List.range len) (hv:rowsOf (sz+1) (l.map fun x=>cJ env x.2)=some rs):Mk P a o w D ι id (.own id 0 len) ⟨true,sz+1,rs⟩:=by
 obtain⟨it,zv,hi,sL,hs,hm,yM⟩:=jf hz
 have iO:it.size=sz+1:=by simpa[dS,hi]using eU
 obtain⟨n1,r1⟩:=ox E hl
 have sJ:l.length=len:=by have:=congrArg List.length O6;simpa using this
 by_cases h0:len=0
 ·subst h0
  have Qm:l=[]:=List.length_eq_zero_iff.1 sJ
  subst Qm
  simp[rowsOf]at hv;subst hv
  have AZ:ps= #[]:=by
   apply Array.ext';apply List.eq_nil_of_length_eq_zero;rw[<-n1];rfl
  subst AZ
  refine⟨.slice (some ⟨w.heap.size,0,none⟩) 0 0, #[],e,?_,rfl,by simp,by simp,by simp,fun i j cs x hi=>by simp at hi,fun ι' hι=>?_⟩
  ·simp[execOp,ho,Instr.buildSlice,run_underlying ht,sizeOf,typeInfo,hi,Instr.fill,newRow,Array.range_zero']
  ·exact .own _ 0 0 0 0 _ hι rfl (Nat.le_refl _) (.inl rfl) (by simp) (by simp[maxLen])
 ·have yL:eP P w D ι ((List.range (len*(sz+1))).map fun k=>(z.getD (k % z.length) .cK).av) ((Array.range (len*(sz+1))).map (zv.cells[· % zv.cells.size]!)):=by
   refine⟨by simp,fun j x hx=>?_⟩
   simp only[List.getElem?_map,Option.map_eq_some_iff]at hx
   obtain⟨k,hk,rfl⟩:=hx
   have jz:=(List.getElem?_eq_some_iff.1 hk).1
   simp at jz
   rw[List.getElem?_range jz]at hk
   injection hk with hk
   subst hk
   obtain⟨c,hc,hcv⟩:=nk hm (by rw[yM,iO];omega) j jz
   exact⟨c.val,hcv,by rw[List.getD_eq_getElem?_getD,hc];exact ta c⟩
  obtain⟨f1,f2,f3,f4⟩:=ss (l.map fun x=>cJ env x.2) (sz+1) 0 rs ((List.range (len*(sz+1))).map fun k=>(z.getD (k % z.length) .cK).av) ad (by simp[sJ]) hv
  obtain⟨iA,h1,h2,h3,h4⟩:=su (P:=P) (w:=w) (D:=D) (ι:=ι) (fun i=>some (i*it.size,it.size)) (ps.toList.map fun(i,x)=>(i,a.eval x)) _ _ _ _ yL
   (fun b hb=>by obtain⟨c,_,rfl⟩:=List.mem_map.1 hb;exact K.lk _) (by simp[n1]) (fun k i u o' n x rD rR=>by
   simp only[List.getElem?_map,Option.map_eq_some_iff]at rD rR
   obtain⟨⟨i',x'⟩,hp,e1⟩:=rD
   obtain⟨⟨v2,j2⟩,Fh,e2⟩:=rR
   simp only[Prod.mk.injEq]at e1 e2
   obtain⟨rfl,rfl⟩:=e1
   obtain⟨rfl,rfl,rfl⟩:=e2
   rw[List.getElem?_zipIdx]at Fh
   simp only[List.getElem?_map,Option.map_map,Option.map_eq_some_iff,Function.comp_apply,Prod.mk.injEq,Nat.zero_add]at Fh
   obtain⟨⟨i2,y⟩,CB,rfl,rfl⟩:=Fh
   obtain⟨x2,xp,hc⟩:=r1 _ _ _ CB
   rw[hp]at xp
   simp only[Option.some.injEq,Prod.mk.injEq]at xp
   obtain⟨rfl,rfl⟩:=xp
   have yy:(l.map (·.1))[k]? =some i':=by rw[List.getElem?_map,CB];rfl
   have jz:=(List.getElem?_eq_some_iff.1 yy).1
   rw[O6]at yy
   simp at jz
   rw[List.getElem?_range ad]at yy
   injection yy with yy
   subst yy
   exact⟨by rw[iO],cX E hc⟩) f1
  simp only[Nat.zero_mul,List.take_zero,List.nil_append,List.length_map]at h2 h3 h4 f2
  have dx:iA.size=len*(sz+1):=by rw[h2.1,h4];simp
  refine⟨.slice (some ⟨w.heap.size,0,none⟩) len len,iA,e,?_,rfl,?_,f3,f4,fun i j cs x mK hj=>h2.2 _ _ (flat_get f3 mK hj),fun ι' hι=>?_⟩
  ·have gC:=run_buildSlice (P:=P) w t e len (ps.map fun(i,x)=>(i,a.eval x)) iA it zv ht hi sL (by rw[iO];omega) (by rw[iO];exact Nat.mul_ne_zero h0 ad) (by rw[<-iO]at h1;simpa using h1)
   simp only[execOp,ho,Sem.run_bind,gC,Result.andThen_ok,Sem.run_pure]
  ·dsimp only;rw[f2,sJ,dx];exact Nat.le_refl _
  ·refine .own _ 0 len 0 len _ hι rfl (Nat.le_refl _) (.inr (by simp)) ?_ (by simp only[maxLen];have:=Nat.le_mul_of_pos_right len (show 0<sz+1 by omega);omega)
   dsimp only;rw[dx];simp
theorem Ej {t e:TypeId} {it:TypeInfo} {m:Nat} {z:List K} {l c:Operand} {l' c':O} {n:Nat} {r:Row} (E:cF P w D ι env a) (ho:o.op=.makeSlice t l c) (ht:P.underlying t=some (.slice e)) (eU:dS P e=some (m+1)) (hz:iT P e=some z) (RD:P.info? e=some it) (hby:it.bytes<=32768)
  (hl:cO P l=some l') (hc:cO P c=some c') (hv:fh z (cJ env l') (cJ env c')=some (n,r)):Mk P a o w D ι id (.own id 0 n) r:=by
 obtain⟨it',zv,hi,sL,hs,hm,yM⟩:=jf hz
 rw[RD]at hi;injection hi with hi;subst hi
 have iO:it.size=m+1:=by simpa[dS,RD]using eU
 unfold fh at hv
 split at hv
 ·rename_i k1 ln k2 cn e1 e2
  split at hv
  ·rename_i hb
   obtain⟨b1,b2,b3⟩:=hb
   simp at hv
   obtain⟨rfl,rfl⟩:=hv
   have r1:=dz (e1▸cX E hl)
   have r2:=dz (e2▸cX E hc)
   unfold cV at b3
   have Kj:(it.bytes:Int)*cn<=281474976710656:=by
    have h1:(it.bytes:Int)<=32768:=ad
    have h2:(it.bytes:Int)*cn<=32768*16777216:=Int.mul_le_mul h1 ad ad ad
    omega
   have gC:=run_make (P:=P) w t e it zv ht RD sL k1 k2 ln cn b1 b2 Kj ad
   have iV:∀k,k<cn.toNat*it.size->∃x,z[k % z.length]? =some x/\(madeCells zv.cells (cn.toNat*it.size))[k]? =some x.val:=fun k hk=>nk hm (by rw[yM,iO];omega) k hk
   refine⟨.slice (some ⟨w.heap.size,0,none⟩) ln.toNat cn.toNat,madeCells zv.cells (cn.toNat*it.size),e,by simp only[execOp,ho,r1,r2,Sem.run_bind,gC,Result.andThen_ok,Sem.run_pure],rfl,?_,?_,?_,?_,fun ι' hι=>?_⟩
   ·simp only[List.length_replicate,size_madeCells,yM]
    exact Nat.mul_le_mul_right _ ad
   ·intro cs dx
    have:=List.eq_of_mem_replicate dx
    subst this;simp
   ·intro cs dx x hx
    have:=List.eq_of_mem_replicate dx
    subst this
    obtain⟨c,_,rfl⟩:=List.mem_map.1 hx;exact c.lk
   ·intro i j cs x mK hj
    have rQ:=(List.getElem?_eq_some_iff.1 mK).1
    have:=List.eq_of_mem_replicate (List.mem_of_getElem? mK)
    subst this
    simp only[List.length_replicate]at rQ
    simp only[List.getElem?_map,Option.map_eq_some_iff]at hj
    obtain⟨q,hq,rfl⟩:=hj
    have gJ:=(List.getElem?_eq_some_iff.1 hq).1
    dsimp only
    obtain⟨x,hx,xp⟩:=iV (i*z.length+j) (by
     rw[<-yM]
     calc i*z.length+j<i*z.length+z.length:=ad
      _=(i+1)*z.length:=by rw[Nat.add_mul,Nat.one_mul]
      _<=cn.toNat*z.length:=Nat.mul_le_mul_right _ ad)
    rw[Nat.mul_comm i,Nat.mul_add_mod,Nat.mod_eq_of_lt gJ,hq]at hx
    injection hx with hx;subst hx
    exact⟨_,by rw[Nat.mul_comm i]at xp ⊢;exact xp,ta q⟩
   ·refine .own _ 0 _ 0 _ _ hι rfl ad (.inr (by simp)) ?_ (by simp only[maxLen];omega)
    dsimp only;rw[size_madeCells,yM];simp
  ·simp at hv
 ·simp at hv
end
end Go.Proofs.YtphenfakmdknlaaGreat.V

namespace Go.Proofs.YtphenfakmdknlaaGreat.V
open Go.RowKit
variable {P:Program} {w w':World} {D D':Nat->Prop} {ι ι':Names}
def B3 (P:Program) (k:TypeId) (m:MK):Prop:=
 (∃s,m=⟨false,[s]⟩/\eS P k=some s)∨
 (∃fs ts,m=⟨true,ts⟩/\P.underlying k=some (.struct fs)/\ek P 4 0 fs.toList=some ts/\P.stoodInHeld k=false/\∀f∈fs.toList,(eS P f.type).isSome=true)
theorem o5 {t:TypeId} {m:MK} {z:K} (h:qh P t=some (m,z)):∃k e i zv,P.underlying t=some (.map k e)/\P.info? e=some i/\i.zero=some zv/\D9 zv=some z/\B3 P k m:=by
 unfold qh at h
 split at h
 ·rename_i k e ht
  split at h
  ·rename_i zv s h1 h2 h3
   simp only[Option.map_eq_some_iff,Prod.mk.injEq]at h
   obtain⟨z',hz,rfl,rfl⟩:=h
   simp only[Option.bind_eq_some_iff]at h2
   obtain⟨i,hi,sL⟩:=h2
   exact⟨k,e,i,zv,ht,hi,sL,hz,.inl ⟨s,rfl,h3⟩⟩
  ·rename_i zv fs h1 h2 h3 h4
   split at h
   ·rename_i ts z' tZ hz
    split at h
    ·rename_i hc
     simp only[Option.some.injEq,Prod.mk.injEq]at h
     obtain⟨rfl,rfl⟩:=h
     simp only[Option.bind_eq_some_iff]at h2
     obtain⟨i,hi,sL⟩:=h2
     simp only[Bool.not_eq_true',List.all_eq_true]at hc
     exact⟨k,e,i,zv,ht,hi,sL,hz,.inr ⟨fs,ts,rfl,h4,tZ,hc.1,hc.2⟩⟩
    ·cases h
   ·cases h
  ·cases h
 ·cases h
theorem te {t:TypeId} {s:TS} (ht:eS P t=some s) (em:Bool) (n:Nat) (v:Value):(Instr.checkKey em (n+1) t v).run P w=.ok () w:=by
 unfold Instr.checkKey
 cases s with
 |tB=>simp[run_underlying (nD ht)]
 |tS=>simp[run_underlying (nF ht)]
 |tI=>
  obtain⟨q,hq⟩:=nE ht
  simp[run_underlying hq]
theorem tf (em:Bool) (n:Nat) (vs:Array Value):∀(d:Nat) (fs:List Field) (off:Nat) (ts:List TS),ek P (d+1) off fs=some ts->(∀f∈fs,(eS P f.type).isSome=true)->off+ts.length<=vs.size->
  Sem.run P (forIn fs PUnit.unit fun f (_:PUnit)=>if f.name≠ "_" then do
    let x <-Go.part f.type vs f.offset
    Instr.checkKey em (n+1) f.type x
    pure (ForInStep.yield PUnit.unit)
   else pure (ForInStep.yield PUnit.unit)) w=Result.ok PUnit.unit w
 |d,[],off,ts,_,_,_=>by simp
 |d,f::r,off,ts,hf,hs,hl=>by
  rw[uD]at hf
  split at hf
  ·rename_i hcond
   obtain⟨ho,gQ⟩:=hcond
   split at hf
   ·rename_i s Sb
    split at hf
    ·rename_i rP
     simp only[Option.map_eq_some_iff]at hf
     obtain⟨KV,hr,rfl⟩:=hf
     simp only[List.length_cons]at hl
     have ih:=tf em n vs d r (off+1) KV hr (fun f hf=>hs f (List.mem_cons_of_mem _ hf)) ad
     have hu:vs[off]? =some vs[off]:=by simp
     simp only[List.forIn_cons,Sem.run_bind,if_pos gQ,ho,k9 rP hu,Result.andThen_ok,te Sb,Sem.run_pure]
     exact ih
    ·cases hf
   ·rename_i hn
    have:=hs f (by simp)
    rw[hn]at this;cases this
  ·cases hf
theorem BE {k:TypeId} {m:MK} (hk:B3 P k m) (em:Bool) (key:AV) (u:Value) (rP:key.isAgg=m.ka) (hlen:key.cells.length=m.ks) (hr:cQ P w D ι key u):(Instr.checkKey em 10000 k u).run P w=.ok () w:=by
 rcases hk with⟨s,rfl,hs⟩|⟨fs,ts,rfl,pf,tZ,ee,dy⟩
 ·exact te hs em 9999 u
 ·cases key<;>simp[AV.isAgg]at rP
  rename_i cs
  obtain⟨vs,f,rfl,h1,_⟩:=gV hr
  unfold Instr.checkKey
  simp only[Sem.run_bind,run_underlying pf,Result.andThen_ok]
  rw[<-Array.forIn_toList]
  have h:=tf (P:=P) (w:=w) em 9998 vs 3 fs.toList 0 ts tZ dy (by simp[AV.cells,MK.ks]at hlen;omega)
  rw[h]
  rfl
theorem FE (a b:ByteArray):(a==b)=decide (a=b):=by
 by_cases h:a=b
 ·subst h;rw[decide_eq_true rfl]
  obtain⟨x⟩:=a
  show(x==x)=true
  simp
 ·rw[decide_eq_false h,Bool.eq_false_iff]
  intro hc
  obtain⟨x⟩:=a
  obtain⟨y⟩:=b
  exact h (by rw[show x=y by simpa using(show(x==y)=true from hc)])
theorem Hr {t:TypeId} {s:TS} {x y:AV} {u v:Value} {b:Bool} {d:TypeDesc} (ht:eS P t=some s) (hd:P.underlying t=some d) (he:eO s x y=some b) (hx:cQ P w D ι x u) (hy:cQ P w D ι y v):Instr.sameNow d u v=some b:=by
 unfold eO at he
 split at he
 ·rename_i k n k' n'
  split at he
  ·rename_i hk
   subst hk
   simp at he;subst he
   obtain⟨q,hq⟩:=nE ht
   rw[hd]at hq;injection hq with hq;subst hq
   rw[dz hx,dz hy]
   simp[Instr.sameNow]
   rfl
  ·cases he
 ·simp at he;subst he
  have hq:=nD ht
  rw[hd]at hq;injection hq with hq;subst hq
  rw[eG hx,eG hy];rfl
 ·rename_i a c
  simp at he;subst he
  have hq:=nF ht
  rw[hd]at hq;injection hq with hq;subst hq
  rw[eY hx,eY hy]
  simp only[Instr.sameNow,FE]
 ·cases he
def Found (es:List MapEntry) (i:Nat) (r:Option Nat) (res:Option (Nat×Value)):Prop:=(r=none/\res=none)∨∃j e,r=some (i+j)/\es[j]? =some e/\res=some (i+j,e.val)
theorem sC {e:MapEntry} {es:List MapEntry} {i:Nat} {r:Option Nat} {res:Option (Nat×Value)} (h:Found es (i+1) r res):Found (e::es) i r res:=by
 rcases h with h|⟨j,x,h1,h2,h3⟩
 ·exact .inl h
 ·exact .inr ⟨j+1,x,by rw[h1];congr 1;omega,by simpa using h2,by rw[h3];congr 2;omega⟩
theorem yf {t:TypeId} {s:TS} {d:TypeDesc} {x:AV} {u:Value} (ht:eS P t=some s) (hd:P.underlying t=some d) (hx:cQ P w D ι x u):∀(rows:List (List AV)) (es:List MapEntry) (i:Nat) (r:Option Nat),es.length=rows.length->
  (∀(j:Nat) (cs:List AV),rows[j]? =some cs->∃(e:MapEntry) (kv:AV),es[j]? =some e/\cs.head? =some kv/\cQ P w D ι kv e.key)->jY ⟨false,[s]⟩ [x] rows i=some r->∃res,Instr.findNow d u es i=some res/\Found es i r res
 |[],[],i,r,_,_,h=>by
  simp[jY]at h;subst h
  exact⟨none,rfl,.inl ⟨rfl,rfl⟩⟩
 |[],e::es,i,r,hl,_,h=>by simp at hl
 |cs::rows,[],i,r,hl,_,h=>by simp at hl
 |cs::rows,e::es,i,r,hl,hr,h=>by
  obtain⟨e',kv,IK,hk,km⟩:=hr 0 cs rfl
  simp at IK;subst IK
  have dx:cs.take (MK.ks ⟨false,[s]⟩)=[kv]:=by
   cases cs with
   |nil=>simp at hk
   |cons a l=>simp at hk;subst hk;simp[MK.ks]
  unfold jY at h
  rw[dx]at h
  cases hq:eO s x kv with
  |none=>simp[er,hq]at h
  |some b=>
   have hs:=Hr ht hd hq hx km
   cases b with
   |true=>
    simp[er,hq]at h;subst h
    exact⟨some (i,e.val),by simp[Instr.findNow,hs],.inr ⟨0,e,rfl,rfl,rfl⟩⟩
   |false=>
    simp[er,hq]at h
    obtain⟨res,h1,h2⟩:=yf ht hd hx rows es (i+1) r (by simpa using hl) (fun j cs hj=>hr (j+1) cs (by simpa using hj)) h
    exact⟨res,by simp[Instr.findNow,hs,h1],sC h2⟩
theorem og {t:TypeId} {fs:Array Field} {ts:List TS} {xs ys:List AV} {vs us:Array Value} {b:Bool} (pf:P.underlying t=some (.struct fs)) (ee:P.stoodInHeld t=false) (tZ:ek P 4 0 fs.toList=some ts) (hx:eP P w D ι xs vs) (hy:eP P w D ι ys us) (hv:er ts xs ys=some b):(Op.equal t (.agg vs) (.agg us)).run P w=.ok b w:=by
 obtain⟨l1,l2⟩:=pa hv
 have q:=pN (w:=w) 4 fs.toList 0 ts tZ 9998 ad xs ys vs us b hx hy (by simpa[List.take_of_length_le,l1,l2]using hv)
 have Km:P.fieldsOf t=fs:=by simp[Program.fieldsOf,pf]
 unfold Op.equal
 rw[show Op.maxDepth=9999+1 from rfl,run_equalIn_struct w 9999 t _ _ (by rw[Km];exact pf) ee,Km,q]
theorem pK {cs:List AV} {v:Value} (h:cQ P w D ι (.agg cs) v):∃vs,v=.agg vs/\eP P w D ι cs vs:=by
 obtain⟨vs,f,rfl,n1,_,f1,r1⟩:=gV h
 exact⟨vs,rfl,n1,fun j a ha=>⟨f j,f1 j (List.getElem?_eq_some_iff.1 ha).1,r1 j a ha⟩⟩
theorem ye {t:TypeId} {fs:Array Field} {ts:List TS} {xs:List AV} {vs:Array Value} (pf:P.underlying t=some (.struct fs)) (ee:P.stoodInHeld t=false) (tZ:ek P 4 0 fs.toList=some ts) (hx:eP P w D ι xs vs):∀(rows:List (List AV)) (es:List MapEntry) (i:Nat) (r:Option Nat),es.length=rows.length->
  (∀(j:Nat) (cs:List AV),rows[j]? =some cs->∃e:MapEntry,es[j]? =some e/\cQ P w D ι (.agg (cs.take ts.length)) e.key)->jY ⟨true,ts⟩ xs rows i=some r->∃res,(Instr.findAsking t (.agg vs) es i).run P w=.ok res w/\Found es i r res
 |[],[],i,r,_,_,h=>by
  simp[jY]at h;subst h
  exact⟨none,by simp[Instr.findAsking],.inl ⟨rfl,rfl⟩⟩
 |[],e::es,i,r,hl,_,h=>by simp at hl
 |cs::rows,[],i,r,hl,_,h=>by simp at hl
 |cs::rows,e::es,i,r,hl,hr,h=>by
  obtain⟨e',IK,km⟩:=hr 0 cs rfl
  simp at IK;subst IK
  obtain⟨us,hk,hy⟩:=pK km
  unfold jY at h
  simp only[MK.ks]at h
  split at h
  ·rename_i hq
   simp at h;subst h
   have q:=og pf ee tZ hx hy hq
   exact⟨some (i,e.val),by simp[Instr.findAsking,hk,q],.inr ⟨0,e,rfl,rfl,rfl⟩⟩
  ·rename_i hq
   have q:=og pf ee tZ hx hy hq
   obtain⟨res,h1,h2⟩:=ye pf ee tZ hx rows es (i+1) r (by simpa using hl) (fun j cs hj=>hr (j+1) cs (by simpa using hj)) h
   exact⟨res,by simp[Instr.findAsking,hk,q,h1],sC h2⟩
  ·cases h
theorem so {a:AV} (h:a.isAgg=false):a.cells=[a]:=by cases a<;>simp_all [AV.isAgg,AV.cells]
theorem sw {k:TypeId} {m:MK} {B:qM} {r:Row} (hk:B3 P k m) {key:AV} {u:Value} (hr:cQ P w D ι key u) {es:Array MapEntry} (eU:es.size=r.rows.length)
  (hM:∀(i:Nat) (cs:List AV),r.rows[i]? =some cs->∃(e:MapEntry) (kv vv:AV),es[i]? =some e/\part m.ka m.ks cs=some kv/\cs[m.ks]? =some vv/\cQ P w D ι kv e.key/\cQ P w D ι vv e.val) {fi:Option Nat} (h:jZ m key r.rows=some fi):
  (∀em,(Instr.checkKey em 10000 k u).run P w=.ok () w)/\∃res,(Instr.findKey k u es.toList).run P w=.ok res w/\Found es.toList 0 fi res:=by
 unfold jZ at h
 split at h
 ·rename_i hc
  obtain⟨c1,c2,c3⟩:=hc
  refine⟨fun em=>BE hk em key u c1 c2 hr,?_⟩
  rcases hk with⟨s,rfl,hs⟩|⟨fs,ts,rfl,pf,tZ,ee,dy⟩
  ·rw[so c1]at h
   have hd:∃d,P.underlying k=some d:=by
    cases s with
    |tB=>exact⟨_,nD hs⟩
    |tS=>exact⟨_,nF hs⟩
    |tI=>obtain⟨q,hq⟩:=nE hs;exact⟨_,hq⟩
   obtain⟨d,hd⟩:=hd
   obtain⟨res,h1,h2⟩:=yf hs hd hr r.rows es.toList 0 fi (by simpa using eU) (fun j cs hj=>by
    obtain⟨e,kv,vv,q1,q2,_,q4,_⟩:=hM j cs hj
    exact⟨e,kv,by simpa using q1,by simpa[part]using q2,q4⟩) h
   exact⟨res,by simp[Instr.findKey,run_underlying hd,h1],h2⟩
  ·cases key<;>simp[AV.isAgg]at c1
   rename_i cs
   obtain⟨vs,rfl,hL⟩:=pK hr
   obtain⟨res,h1,h2⟩:=ye pf ee tZ hL r.rows es.toList 0 fi (by simpa using eU) (fun j cs hj=>by
    obtain⟨e,kv,vv,q1,q2,_,q4,_⟩:=hM j cs hj
    unfold part at q2
    simp only[if_true]at q2
    split at q2
    ·simp only[Option.some.injEq]at q2;subst q2
     exact⟨e,by simpa using q1,q4⟩
    ·cases q2) h
   exact⟨res,(run_findKey_eq w (by simp[pf]) _ _).trans h1,h2⟩
 ·cases h
section
variable {g:Rows} {hs:Nat} {env:Env} {a:Act} {o:Oper} {id:Id} {v:AV}
theorem wI {m:MK} {x:AV} {u:Value} {p:Id×Row} (S:fN P hs D ι g w) (hr:cQ P w D ι x u) (h:db g m x=some p):∃B,u=.map (some B.b)/\g p.1=some p.2/\ι p.1=some B/\B.k=some (.map m)/\Kb P w D ι B m p.2:=by
 unfold db at h
 split at h
 ·rename_i i m'
  split at h
  ·rename_i hm
   subst hm
   simp only[Option.map_eq_some_iff]at h
   obtain⟨r,hg,rfl⟩:=h
   obtain⟨B,rfl,hB,hk⟩:=JK hr
   obtain⟨B',dH,R,_⟩:=S.row i r hg
   rw[hB]at dH;injection dH with dH;subst dH
   exact⟨B,rfl,hg,hB,hk,(R.map _ hk).2⟩
  ·cases h
 ·cases h
theorem M7 {t:TypeId} {x k:Operand} {ok:Bool} {m:MK} {z:K} {x' k':O} {mr:Option Row} (S:fN P hs D ι g w) (E:cF P w D ι env a) (ho:o.op=.lookup t x k ok) (hc:qh P t=some (m,z)) (hx:cO P x=some x') (hk:cO P k=some k')
  (hv:aV (.look m ok z) [cJ env x',cJ env k'] g id=some (v,mr)):mr=none/\mj P a o w D ι v:=by
 obtain⟨kt,e,i,zv,ht,hi,sL,Ql,hK⟩:=o5 hc
 simp only[aV,Option.bind_eq_some_iff,Option.map_eq_some_iff,Prod.mk.injEq]at hv
 obtain⟨p,hp,fi,Kl,y,hy,rfl,rfl⟩:=hv
 obtain⟨B,hu,hg,hB,rO,es,clock,hb,eU,hlen,hM⟩:=wI S (cX E hx) hp
 obtain⟨HZ,res,hf,hF⟩:=sw (B:=B) hK (cX E hk) eU hM Kl
 have key:∃val,(match res with|some (_,v)=>(v,true)|none=>(zv,false))=(val,fi.isSome)/\cQ P w D ι y val:=by
  rcases hF with⟨rfl,rfl⟩|⟨j,en,rfl,he,rfl⟩
  ·simp only[dd,Option.some.injEq]at hy;subst hy
   refine⟨zv,rfl,?_⟩
   rw[wC Ql];exact ta z
  ·simp only[dd,Option.bind_eq_some_iff,Nat.zero_add]at hy
   obtain⟨cs,dx,hy⟩:=hy
   obtain⟨e',kv,vv,q1,_,q3,_,q5⟩:=hM _ cs dx
   rw[hy]at q3;injection q3 with q3;subst q3
   have:e'=en:=by
    have h1:es.toList[j]? =some e':=by simpa using q1
    rw[he]at h1;injection h1 with h1;exact h1.symm
   subst this
   exact⟨_,rfl,q5⟩
 obtain⟨val,nU,jV⟩:=key
 have ev:(getObj B.b).run P w=.ok (.map es clock) w:=MapKept.run_getObj_map hb
 have hz:(zeroValue e).run P w=.ok zv w:=by simp[zeroValue,typeInfo,hi,sL]
 refine⟨rfl,if ok then .tuple #[val,.bool fi.isSome]else val,?_,?_⟩
 ·simp only[execOp,ho,hu,Instr.lookup,Sem.run_bind,run_underlying ht,Result.andThen_ok,ev,Sem.run_pure,HZ,hf]
  rcases hF with⟨rfl,rfl⟩|⟨j,en,rfl,he,rfl⟩
  ·simp only[Prod.mk.injEq]at nU
   simp[hz,nU.1]
  ·simp only[Prod.mk.injEq]at nU
   simp[nU.1]
 ·cases ok with
  |false=>exact jV
  |true=>
   refine .im _ _ (fun j=>if j=0 then val else .bool fi.isSome) rfl (fun j hj=>?_) (fun j b hj=>?_)
   ·have:j=0∨j=1:=by simp at hj;omega
    rcases this with rfl|rfl<;>rfl
   ·match j,hj with
    |0,hj=>simp at hj;subst hj;exact jV
    |1,hj=>simp at hj;subst hj;exact .ez _ _ (.bool _)
    |j+2,hj=>simp at hj
theorem Nb {t:TypeId} {x:Operand} {m:MK} {z:K} {x':O} {mr:Option Row} (S:fN P hs D ι g w) (E:cF P w D ι env a) (ho:o.op=.call {callee:=.builtin .len,args:= #[x],argTypes:= #[t]}) (hc:qh P t=some (m,z)) (hx:cO P x=some x')
  (hv:aV (.len m) [cJ env x'] g id=some (v,mr)):mr=none/\mj P a o w D ι v:=by
 obtain⟨kt,e,i,zv,ht,hi,sL,Ql,hK⟩:=o5 hc
 simp only[aV,Option.map_eq_some_iff,Prod.mk.injEq]at hv
 obtain⟨p,hp,rfl,rfl⟩:=hv
 obtain⟨B,hu,hg,hB,rO,es,clock,hb,eU,hlen,hM⟩:=wI S (cX E hx) hp
 have ev:(getObj B.b).run P w=.ok (.map es clock) w:=MapKept.run_getObj_map hb
 refine⟨rfl,.int .i64 (es.size:Int),?_,by rw[eU];exact .ez _ _ (.int _ _)⟩
 simp only[execOp,ho,resolve,Sem.run_bind,Sem.run_pure,Result.andThen_ok,invoke,builtin,Array.map,hu]
 simp[Builtin.len_,run_underlying ht,goInt,hu,ev]
def MkM (P:Program) (a:Act) (o:Oper) (w:World) (id:Id) (v:AV) (r:Row):Prop:=
 ∃m,(execOp a.eval o).run P w=.ok (.value (.map (some w.heap.size))) (w.alloc (.map #[] 0))/\v=.map id m/\r=⟨true,m.zO,[]⟩
theorem Ps {t:TypeId} {m:MK} (ho:o.op=.makeMap t none):MkM P a o w id (.map id m) ⟨true,m.zO,[]⟩:=by
 refine⟨m,?_,rfl,rfl⟩
 simp[execOp,ho,Instr.makeMap,go_sem]
def MkC (P:Program) (a:Act) (o:Oper) (w:World) (id:Id) (v:AV) (r:Row):Prop:=
 ∃n,(execOp a.eval o).run P w=.ok (.value (.chan (some w.heap.size))) (w.alloc (.chan n #[] false 0 0 false))/\v=.qj id/\r=⟨true,o9+n,[]⟩
theorem Mr {t e:TypeId} {x:Operand} {x':O} {dir:ChanDir} {i:TypeInfo} {n:Nat} (E:cF P w D ι env a) (ho:o.op=.makeChan t x) (ht:P.underlying t=some (.chan dir e)) (hi:P.info? e=some i) (hb:i.bytes<=32768) (hx:cO P x=some x') (hn:cr (cJ env x')=some n):MkC P a o w id (.qj id) ⟨true,o9+n,[]⟩:=by
 refine⟨n,?_,rfl,rfl⟩
 have hr:=cX E hx
 unfold cr at hn
 split at hn
 ·rename_i k m hm
  rw[hm]at hr
  split at hn
  ·rename_i hc
   simp only[Option.some.injEq]at hn
   subst hn
   have Ky:((m.toNat:Nat):Int)=m:=ad
   have ea:(i.bytes:Int)*(m.toNat:Nat)<=281474976710544:=by
    have h1:i.bytes*m.toNat<=32768*1048576:=Nat.mul_le_mul hb ad
    have h2:((i.bytes*m.toNat:Nat):Int)<=281474976710544:=ad
    rwa [Int.natCast_mul]at h2
   have h:=Conc.run_makeChan (P:=P) (w:=w) ht hi k m.toNat ad ea
   rw[Ky]at h
   simp only[execOp,ho,dz hr,Sem.run_bind,h,Result.andThen_ok,Sem.run_pure]
  ·cases hn
 ·cases hn
theorem vL {x:AV} {u:Value} {i:Id} {r:Row} (S:fN P hs D ι g w) (hr:cQ P w D ι x u) (hx:x=.qj i) (hg:g i=some r):∃B c,u=.chan (some B.b)/\ι i=some B/\B.k=some (.chan c)/\r.sz=o9+c/\Ft P w D ι B c r:=by
 subst hx
 obtain⟨B,c,rfl,hB,hk⟩:=JI hr
 obtain⟨B',dH,R,_⟩:=S.row i r hg
 rw[hB]at dH;injection dH with dH;subst dH
 exact⟨B,c,rfl,hB,hk,R.chan c hk⟩
theorem M4 {t e:TypeId} {dir:ChanDir} {x:Operand} {x':O} (S:fN P hs D ι g w) (E:cF P w D ι env a) (ho:o.op=.call {callee:=.builtin .len,args:= #[x],argTypes:= #[t]}) (ht:P.underlying t=some (.chan dir e)) (hx:cO P x=some x') (hv:cm g (cJ env x')=some v):mj P a o w D ι v:=by
 have hr:=cX E hx
 unfold cm at hv
 split at hv
 ·rename_i i he
  simp only[Option.map_eq_some_iff]at hv
  obtain⟨r,hg,rfl⟩:=hv
  obtain⟨B,c,hu,hB,hk,eU,buf,s,q,hb,Ff,_⟩:=vL S hr he hg
  have ev:(getObj B.b).run P w=.ok (.chan c buf false s q false) w:=by simp[getObj,Sem.run,hb]
  refine⟨.int .i64 (buf.size:Int),?_,by rw[Ff];exact .ez _ _ (.int _ _)⟩
  simp only[execOp,ho,resolve,Sem.run_bind,Sem.run_pure,Result.andThen_ok,invoke,builtin,Array.map,hu]
  simp[Builtin.len_,run_underlying ht,goInt,hu,ev]
 ·cases hv
end
end Go.Proofs.YtphenfakmdknlaaGreat.V

namespace Go.Proofs.YtphenfakmdknlaaGreat.V
open Go.RowKit
variable {P:Program} {w w':World} {D D':Nat->Prop} {ι ι':Names}
def Ih (P:Program) (a:Act) (o:Oper) (w:World) (D:Nat->Prop) (ι:Names) (id:Id) (v:AV):Option Row->Prop
 |none=>mj P a o w D ι v
 |some r=>Mk P a o w D ι id v r∨MkM P a o w id v r∨MkC P a o w id v r
section
variable {g:Rows} {hs:Nat} {env:Env} {a:Act} {o:Oper} {id:Id} {v:AV}
theorem kq {x:Option AV} {mr:Option Row} (h:x.map (·,(none:Option Row))=some (v,mr)) (H:x=some v->mj P a o w D ι v):Ih P a o w D ι id v mr:=by
 cases x with
 |none=>simp at h
 |some y=>simp at h;obtain⟨rfl,rfl⟩:=h;exact H rfl
theorem PE {neg:Bool} {t yt:TypeId} {x y:Operand} {vo:fH} {mr:Option Row} (ho:o.op=.binOp (if neg then .neq else .eql) t x y yt) (hc:qg P neg t x y=some vo) (hq:dY vo (cJ env) g id=some (v,mr)) (E:cF P w D ι env a):Ih P a o w D ι id v mr:=by
 unfold qg at hc
 split at hc
 ·split at hc
  ·rename_i e ht
   simp only[Option.map_eq_some_iff]at hc
   obtain⟨x',hx,rfl⟩:=hc
   simp only[dY,dm,Bool.false_eq_true,if_false,Option.map_eq_some_iff,Prod.mk.injEq]at hq
   obtain⟨b,hb,rfl,rfl⟩:=hq
   exact MZ E ho ht hx hb
  ·simp at hc
 ·split at hc
  ·rename_i ht
   simp only[Option.map_eq_some_iff]at hc
   obtain⟨x',hx,rfl⟩:=hc
   simp only[dY,dm,if_true,Option.map_eq_some_iff,Prod.mk.injEq]at hq
   obtain⟨b,hb,rfl,rfl⟩:=hq
   exact MY E ho ht hx hb
  ·simp at hc
 ·split at hc
  ·rename_i ht
   simp only[Option.map_eq_some_iff]at hc
   obtain⟨x',hx,rfl⟩:=hc
   simp only[dY,Option.map_eq_some_iff,Prod.mk.injEq]at hq
   obtain⟨b,hb,rfl,rfl⟩:=hq
   exact PS E ho ht hx hb
  ·simp at hc
 ·split at hc
  ·rename_i s hs
   simp only[Option.bind_eq_bind,Option.bind_eq_some_iff,Option.pure_def,Option.some.injEq]at hc
   obtain⟨x',hx,y',hy,rfl⟩:=hc
   simp only[dY,Option.map_eq_some_iff,Prod.mk.injEq]at hq
   obtain⟨b,hb,rfl,rfl⟩:=hq
   have tL:eS P t=some s:=by
    unfold QP at hs
    split at hs
    ·rename_i s' h;simp at hs;subst hs;exact h
    ·split at hs
     ·split at hs
      ·simp at hs
      ·simp at hs
     ·simp at hs
   exact PT E ho tL hx hy hb
  ·rename_i ts hs
   simp only[Option.bind_eq_bind,Option.bind_eq_some_iff,Option.pure_def,Option.some.injEq]at hc
   obtain⟨x',hx,y',hy,rfl⟩:=hc
   simp only[dY]at hq
   split at hq
   ·rename_i xs ys h1 h2
    simp only[Option.map_eq_some_iff,Prod.mk.injEq]at hq
    obtain⟨b,hb,rfl,rfl⟩:=hq
    unfold QP at hs
    split at hs
    ·simp at hs
    ·split at hs
     ·rename_i fs pf
      split at hs
      ·rename_i hg
       simp only[Option.map_eq_some_iff,QF.ag.injEq]at hs
       obtain⟨KV,tZ,rfl⟩:=hs
       simp only[Bool.and_eq_true,Bool.not_eq_true']at hg
       exact PR E ho pf hg.1 hg.2 tZ hx hy h1 h2 hb
      ·simp at hs
     ·simp at hs
   ·simp at hq
  ·simp at hc
theorem MB {c:Call} {vo:fH} {mr:Option Row} (ho:o.op=.call c) (hc:lL P c=some vo) (hq:dY vo (cJ env) g id=some (v,mr)) (S:fN P hs D ι g w) (E:cF P w D ι env a):Ih P a o w D ι id v mr:=by
 unfold lL at hc
 split at hc
 ·rename_i jG
  split at hc
  ·rename_i x t h1 h2
   have hce:c={callee:=.builtin .len,args:= #[x],argTypes:= #[t]}:=by
    obtain⟨a,b,c⟩:=c
    simp only at h1 h2 jG
    subst jG
    congr
    ·exact Array.ext' h1
    ·exact Array.ext' h2
   rw[hce]at ho
   split at hc
   ·rename_i e ht
    simp only[Option.map_eq_some_iff]at hc
    obtain⟨x',hx,rfl⟩:=hc
    simp only[dY,Option.map_eq_some_iff,Prod.mk.injEq]at hq
    obtain⟨n,hn,rfl,rfl⟩:=hq
    exact PU E ho ht hx hn
   ·rename_i ht
    simp only[Option.map_eq_some_iff]at hc
    obtain⟨x',hx,rfl⟩:=hc
    exact kq hq fun h=>M5 E ho ht hx h
   ·split at hc
    ·rename_i m z x' hm hx
     simp only[Option.some.injEq]at hc
     subst hc
     obtain⟨rfl,h⟩:=Nb (id:=id) S E ho hm hx hq
     exact h
    ·cases hc
   ·rename_i ht
    simp only[Option.map_eq_some_iff]at hc
    obtain⟨x',hx,rfl⟩:=hc
    exact kq hq fun h=>M4 S E ho ht hx h
   ·simp at hc
  ·simp at hc
 ·split at hc
  ·split at hc
   ·split at hc
    ·split at hc
     ·simp only[Option.bind_eq_bind,Option.bind_eq_some_iff,Option.pure_def,Option.some.injEq]at hc
      obtain⟨x',hx,y',hy,rfl⟩:=hc
      simp[dY]at hq
     ·simp at hc
    ·simp at hc
   ·simp at hc
  ·simp at hc
 ·split at hc
  ·split at hc
   ·split at hc
    ·simp only[Option.map_eq_some_iff]at hc
     obtain⟨x',hx,rfl⟩:=hc
     simp[dY]at hq
    ·simp at hc
   ·simp at hc
  ·simp at hc
 ·split at hc
  ·simp only[Option.map_eq_some_iff]at hc
   obtain⟨x',hx,rfl⟩:=hc
   simp[dY]at hq
  ·simp at hc
 ·simp only[Option.map_eq_some_iff]at hc
  obtain⟨x',hx,rfl⟩:=hc
  simp[dY]at hq
 ·split at hc
  ·split at hc
   ·simp only[Option.some.injEq]at hc
    subst hc
    simp[dY]at hq
   ·cases hc
  ·cases hc
 ·split at hc
  ·split at hc
   ·split at hc
    ·simp only[Option.bind_eq_bind,Option.bind_eq_some_iff,Option.pure_def,Option.some.injEq]at hc
     obtain⟨x',hx,y',hy,rfl⟩:=hc
     simp[dY]at hq
    ·simp at hc
   ·simp at hc
  ·simp at hc
 ·simp at hc
theorem uX {vo:fH} {mr:Option Row} (hc:oS P o.op=some vo) (hq:dY vo (cJ env) g id=some (v,mr)) (S:fN P hs D ι g w) (E:cF P w D ι env a):Ih P a o w D ι id v mr:=by
 unfold oS at hc
 split at hc
 ·rename_i ho
  simp only[Option.map_eq_some_iff]at hc
  obtain⟨x',hx,rfl⟩:=hc
  simp[dY]at hq;obtain⟨rfl,rfl⟩:=hq
  exact KY E (.inl ho) hx
 ·rename_i ho
  simp only[Option.map_eq_some_iff]at hc
  obtain⟨x',hx,rfl⟩:=hc
  simp[dY]at hq;obtain⟨rfl,rfl⟩:=hq
  exact KY E (.inr ho) hx
 ·rename_i ho
  simp only[Option.bind_eq_bind,Option.bind_eq_some_iff,Option.pure_def,Option.some.injEq]at hc
  obtain⟨c',h1,x',h2,y',h3,rfl⟩:=hc
  exact kq hq fun h=>Nc E ho h1 h2 h3 h
 ·rename_i ho
  simp only[Option.map_eq_some_iff]at hc
  obtain⟨z,hz,rfl⟩:=hc
  simp only[dY,Option.some.injEq,Prod.mk.injEq]at hq
  obtain⟨rfl,rfl⟩:=hq
  exact .inl (Pt ho hz)
 ·rename_i ho
  simp only[Option.map_eq_some_iff]at hc
  obtain⟨x',hx,rfl⟩:=hc
  simp only[dY,Option.map_eq_some_iff,Prod.mk.injEq]at hq
  obtain⟨cs,dx,rfl,rfl⟩:=hq
  exact .inl (Pr E ho hx dx)
 ·rename_i ho
  simp only[Option.bind_eq_bind,Option.bind_eq_some_iff,Option.pure_def,Option.some.injEq]at hc
  obtain⟨ag,h1,n,h2,x',h3,rfl⟩:=hc
  exact kq hq fun h=>M6 S E ho h1 h2 h3 h
 ·rename_i ho
  simp only[Option.bind_eq_bind,Option.bind_eq_some_iff,Option.pure_def,Option.some.injEq]at hc
  obtain⟨n,h2,x',h3,y',h4,rfl⟩:=hc
  simp[dY]at hq
 ·rename_i ho
  simp only[Option.map_eq_some_iff]at hc
  obtain⟨x',hx,rfl⟩:=hc
  exact kq hq fun h=>PQ E ho hx h
 ·rename_i op t x y yt ho
  unfold sf at hc
  split at hc
  ·exact PE (neg:=false) ho hc hq E
  ·exact PE (neg:=true) ho hc hq E
  ·simp only[Option.bind_eq_bind,Option.bind_eq_some_iff,Option.pure_def,Option.some.injEq]at hc
   obtain⟨x',h3,y',h4,rfl⟩:=hc
   exact kq hq fun h=>PY (left:=true) E ho h3 h4 h
  ·simp only[Option.bind_eq_bind,Option.bind_eq_some_iff,Option.pure_def,Option.some.injEq]at hc
   obtain⟨x',h3,y',h4,rfl⟩:=hc
   exact kq hq fun h=>PY (left:=false) E ho h3 h4 h
  ·rename_i n1 n2 n3 n4
   split at hc
   ·simp only[Option.bind_eq_bind,Option.bind_eq_some_iff,Option.pure_def,Option.some.injEq]at hc
    obtain⟨x',h3,y',h4,rfl⟩:=hc
    exact kq hq fun h=>PO E ho n1 n2 h3 h4 h
   ·simp only[Option.bind_eq_bind,Option.bind_eq_some_iff,Option.pure_def,Option.some.injEq]at hc
    obtain⟨x',h3,y',h4,rfl⟩:=hc
    exact kq hq fun h=>MV E ho n1 n2 h3 h4 h
   ·simp at hc
 ·rename_i ho
  simp only[Option.map_eq_some_iff]at hc
  obtain⟨x',hx,rfl⟩:=hc
  exact kq hq fun h=>PX E ho hx h
 ·rename_i ho
  simp only[Option.map_eq_some_iff]at hc
  obtain⟨x',hx,rfl⟩:=hc
  exact kq hq fun h=>PW E ho hx h
 ·rename_i ho
  split at hc
  ·rename_i q k h1 h2
   simp only[Option.map_eq_some_iff]at hc
   obtain⟨x',hx,rfl⟩:=hc
   exact kq hq fun h=>MX E ho h1 h2 hx h
  ·rename_i h1 h2
   simp only[Option.map_eq_some_iff]at hc
   obtain⟨x',hx,rfl⟩:=hc
   exact kq hq fun h=>by
    have hr:=cX E hx
    unfold bo at h
    split at h
    ·rename_i s hb
     simp at h;subst h
     rw[hb]at hr
     exact⟨.string s,by simp only[execOp,ho,eY hr,convert,Sem.run_bind,run_underlying h1,run_underlying h2,Result.andThen_ok,Sem.run_pure],.ez _ _ (.str _)⟩
    ·simp at h
  ·simp at hc
 ·rename_i ho
  split at hc
  ·rename_i e ht
   simp only[Option.bind_eq_bind,Option.bind_eq_some_iff,Option.pure_def,Option.some.injEq]at hc
   obtain⟨n,h1,x',h2,lo,h3,hi,h4,rfl⟩:=hc
   exact kq hq fun h=>J6 S E ho ht h1 h2 h3 h4 h
  ·rename_i ht
   simp only[Option.bind_eq_bind,Option.bind_eq_some_iff,Option.pure_def,Option.some.injEq]at hc
   obtain⟨x',h2,lo,h3,hi,h4,rfl⟩:=hc
   exact kq hq fun h=>HU E ho ht h2 h3 h4 h
  ·simp at hc
 ·rename_i ho
  split at hc
  ·rename_i fs pf
   split at hc
   ·rename_i f hf
    split at hc
    ·rename_i m hm
     simp only[Option.map_eq_some_iff]at hc
     obtain⟨x',hx,rfl⟩:=hc
     exact kq hq fun h=>J3 E ho pf hf hm hx h
    ·simp at hc
   ·simp at hc
  ·simp at hc
 ·rename_i ho
  split at hc
  ·rename_i fs pf
   split at hc
   ·rename_i f hf
    simp only[Option.bind_eq_bind,Option.bind_eq_some_iff,Option.pure_def,Option.some.injEq]at hc
    obtain⟨ag,h1,n,h2,x',h3,rfl⟩:=hc
    exact kq hq fun h=>J4 E ho pf hf h1 h2 h3 h
   ·simp at hc
  ·simp at hc
 ·rename_i ho
  split at hc
  ·rename_i e ht
   split at hc
   ·rename_i m hm
    simp only[Option.bind_eq_bind,Option.bind_eq_some_iff,Option.pure_def,Option.some.injEq]at hc
    obtain⟨x',h1,i',h2,rfl⟩:=hc
    exact kq hq fun h=>J5 S E ho ht hm h1 h2 h
   ·simp at hc
  ·rename_i len e ht
   split at hc
   ·rename_i m hm
    simp only[Option.bind_eq_bind,Option.bind_eq_some_iff,Option.pure_def,Option.some.injEq]at hc
    obtain⟨x',h1,i',h2,rfl⟩:=hc
    exact kq hq fun h=>M0 E ho ht hm h1 h2 h
   ·simp at hc
  ·simp at hc
 ·rename_i ho
  split at hc
  ·rename_i ht
   simp only[Option.bind_eq_bind,Option.bind_eq_some_iff,Option.pure_def,Option.some.injEq]at hc
   obtain⟨x',h1,i',h2,rfl⟩:=hc
   exact kq hq fun h=>M3 E ho ht h1 h2 h
  ·rename_i len e ht
   simp only[Option.bind_eq_bind,Option.bind_eq_some_iff,Option.pure_def,Option.some.injEq]at hc
   obtain⟨ag,h0,n,h1,x',h2,i',h3,rfl⟩:=hc
   exact kq hq fun h=>M1 E ho ht h0 h1 h2 h3 h
  ·simp at hc
 ·rename_i ho
  simp only[Option.map_eq_some_iff]at hc
  obtain⟨x',hx,rfl⟩:=hc
  exact kq hq fun h=>Fe E ho hx h
 ·rename_i ho
  split at hc
  ·rename_i fs pf
   split at hc
   ·rename_i z l hz hl
    split at hc
    ·rename_i dy
     simp only[Option.map_eq_some_iff]at hc
     obtain⟨q,Fh,rfl⟩:=hc
     simp only[dY,Option.map_eq_some_iff,Prod.mk.injEq]at hq
     obtain⟨cs,dx,rfl,rfl⟩:=hq
     exact J2 E ho pf hz hl (fun f hf=>by
      rw[Array.all_eq_true_iff_forall_mem]at dy
      exact dy f (Array.mem_toList_iff.1 hf)) Fh dx
    ·simp at hc
   ·simp at hc
  ·rename_i len e ht
   split at hc
   ·rename_i z l n hz hl hn
    simp only[Option.some.injEq]at hc
    subst hc
    simp only[dY,Option.map_eq_some_iff,Prod.mk.injEq]at hq
    obtain⟨cs,dx,rfl,rfl⟩:=hq
    exact HT E ho ht hz hl hn dx
   ·simp at hc
  ·simp at hc
 ·rename_i ho
  split at hc
  ·rename_i e ht
   split at hc
   ·rename_i sz z l h1 h2 h3
    split at hc
    ·rename_i hh
     simp only[Option.some.injEq]at hc
     subst hc
     simp only[dY,Option.map_eq_some_iff,Prod.mk.injEq]at hq
     obtain⟨rs,uM,rfl,rfl⟩:=hq
     exact .inl (GW E ho ht h1 h2 h3 hh.1 hh.2 (by rw[List.map_map]at uM;exact uM))
    ·simp at hc
   ·simp at hc
  ·simp at hc
 ·rename_i ho
  split at hc
  ·rename_i hh
   simp only[Option.map_eq_some_iff]at hc
   obtain⟨l,hl,rfl⟩:=hc
   simp[dY]at hq;obtain⟨rfl,rfl⟩:=hq
   exact M8 E ho hh.1 hh.2 hl
  ·split at hc
   ·rename_i hh
    simp only[Option.map_eq_some_iff]at hc
    obtain⟨l,hl,rfl⟩:=hc
    simp[dY]at hq;obtain⟨rfl,rfl⟩:=hq
    exact M9 E ho hh.1 hh.2 hl
   ·simp at hc
 ·rename_i ho
  split at hc
  ·rename_i e ht
   split at hc
   ·rename_i m z i h1 h2 h3
    split at hc
    ·rename_i hb
     simp only[Option.bind_eq_bind,Option.bind_eq_some_iff,Option.pure_def,Option.some.injEq]at hc
     obtain⟨l',h4,c',h5,rfl⟩:=hc
     simp only[dY,Option.map_eq_some_iff,Prod.mk.injEq]at hq
     obtain⟨⟨n,r⟩,hr,rfl,rfl⟩:=hq
     exact .inl (Ej E ho ht h1 h2 h3 hb h4 h5 hr)
    ·simp at hc
   ·simp at hc
  ·simp at hc
 ·rename_i ho
  exact MB ho hc hq S E
 ·rename_i ho
  split at hc
  ·rename_i dir e ht
   split at hc
   ·rename_i i hi
    split at hc
    ·rename_i hb
     simp only[Option.map_eq_some_iff]at hc
     obtain⟨x',hx,rfl⟩:=hc
     simp only[dY,Option.map_eq_some_iff,Prod.mk.injEq]at hq
     obtain⟨n,hn,rfl,rfl⟩:=hq
     exact .inr (.inr (Mr E ho ht hi hb hx hn))
    ·cases hc
   ·cases hc
  ·cases hc
 ·simp only[Option.bind_eq_bind,Option.bind_eq_some_iff,Option.pure_def,Option.some.injEq]at hc
  obtain⟨x',_,y',_,rfl⟩:=hc
  simp[dY]at hq
 ·split at hc
  ·split at hc
   ·simp only[Option.map_eq_some_iff]at hc
    obtain⟨x',_,rfl⟩:=hc
    simp[dY]at hq
   ·cases hc
  ·cases hc
 ·rename_i ho
  split at hc
  ·rename_i m z hm
   simp only[Option.some.injEq]at hc
   subst hc
   simp only[dY,List.map_nil,aV,Option.some.injEq,Prod.mk.injEq]at hq
   obtain⟨rfl,rfl⟩:=hq
   exact .inr (.inl (Ps ho))
  ·cases hc
 ·rename_i ho
  split at hc
  ·rename_i m z x' k' hm hx hk
   simp only[Option.some.injEq]at hc
   subst hc
   obtain⟨rfl,h⟩:=M7 (id:=id) S E ho hm hx hk hq
   exact h
  ·cases hc
 ·split at hc
  ·simp only[Option.some.injEq]at hc
   subst hc
   simp[dY]at hq
  ·cases hc
 ·split at hc
  ·simp only[Option.some.injEq]at hc
   subst hc
   simp[dY]at hq
  ·cases hc
 ·simp only[Option.some.injEq]at hc
  subst hc
  simp[dY]at hq
 ·simp only[Option.some.injEq]at hc
  subst hc
  simp[dY]at hq
 ·simp at hc
end
end Go.Proofs.YtphenfakmdknlaaGreat.V

namespace Go.Proofs.YtphenfakmdknlaaGreat.V
open Go.RowKit
variable {P:Program} {w w':World} {D D':Nat->Prop} {ι ι':Names}
def kd (ι:Names) (id:Id) (B:qM):Names:=fun i=>if i=id then some B else ι i
theorem eh (ι:Names) (id:Id) (B:qM):kd ι id B id=some B:=if_pos rfl
theorem fB {ι:Names} {id:Id} {B:qM} (h:ι id=none):∀i B',ι i=some B'->kd ι id B i=some B':=fun i B' hi=>by
 have:i≠id:=by rintro rfl;rw[h]at hi;cases hi
 rw[kd,if_neg this];exact hi
theorem fA {ι:Names} {id i:Id} {B:qM} (h:i≠id):kd ι id B i=ι i:=if_neg h
section
variable {g:Rows} {hs:Nat} {env:Env} {a:Act} {o:Oper} {id:Id} {v:AV}
theorem kC.frame {B:qM} {r:Row} (h:kC P w D ι B r) (hb:w'.heap[B.b]? =w.heap[B.b]?) (hr:∀a v,cQ P w D ι a v->cQ P w' D' ι' a v):kC P w' D' ι' B r:=
 ⟨h.sz,by obtain⟨c,T,h1,h2⟩:=h.vH;exact⟨c,T,hb.trans h1,h2⟩,h.fits,h.len,h.flat,fun i j cs a hi hj=>by
  obtain⟨v,h1,h2⟩:=h.at_ i j cs a hi hj
  exact⟨v,(World.cell?_of_block (a:=⟨B.b,i*r.sz+j,none⟩) hb).trans h1,hr _ _ h2⟩⟩
theorem gL.frame {B:qM} {r:Row} (h:gL P w D ι B r) (hb:w'.heap[B.b]? =w.heap[B.b]?) (hr:∀a v,cQ P w D ι a v->cQ P w' D' ι' a v):gL P w' D' ι' B r:=
 ⟨h.sz,h.flat,fun hk=>(h.row hk).frame hb hr,fun m hm=>by
  obtain⟨h1,es,c,h2,h3,h5,h4⟩:=h.map m hm
  refine⟨h1,es,c,hb.trans h2,h3,h5,fun i cs hi=>?_⟩
  obtain⟨e,kv,vv,q1,q2,q3,q4,q5⟩:=h4 i cs hi
  exact⟨e,kv,vv,q1,q2,q3,hr _ _ q4,hr _ _ q5⟩,fun c hc=>by
  obtain⟨h1,buf,s,q,h2,h3,h4⟩:=h.chan c hc
  refine⟨h1,buf,s,q,hb.trans h2,h3,fun i cs hi=>?_⟩
  obtain⟨a,u,q1,q2,q3⟩:=h4 i cs hi
  exact⟨a,u,q1,q2,hr _ _ q3⟩⟩
theorem fN.kill (S:fN P hs D ι g w) (i:Id):fN P hs D ι (bx g i) w:=by
 refine⟨S.lo,S.dead,fun id r h=>?_,fun id jW r r' B B' h h' hw hB dH hb=>?_⟩
 ·unfold bx at h;split at h
  ·cases h
  ·exact S.row id r h
 ·unfold bx at h h'
  split at h
  ·cases h
  ·split at h'
   ·cases h'
   ·exact S.inj id jW r r' B B' h h' hw hB dH hb
theorem fN.sub {g':Rows} (S:fN P hs D ι g w) (h:∀id r,g' id=some r->g id=some r):fN P hs D ι g' w:=
 ⟨S.lo,S.dead,fun id r hr=>S.row id r (h id r hr),fun id jW r r' B B' h1 h2=>S.inj id jW r r' B B' (h _ _ h1) (h _ _ h2)⟩
theorem xc {hid:List Nat} {n:Nat} {g:Rows}:∀id r,eI hid n g id=some r->g id=some r:=fun id r h=>by
 cases hid with
 |nil=>exact h
 |cons a l=>
  have e:eI (a::l) n g id=if (a::l).contains id.site=true/\id.bR=n then none else g id:=rfl
  rw[e]at h
  by_cases hc:(a::l).contains id.site=true/\id.bR=n
  ·rw[if_pos hc]at h;cases h
  ·rw[if_neg hc]at h;exact h
theorem fN.stay (S:fN P hs D ι g w) (hb:∀b,b<w.heap.size->w'.heap[b]? =w.heap[b]?) (hz:w.heap.size<=w'.heap.size) (hD:∀b,D b->D' b) (hD':∀b,D' b->b<w'.heap.size) (jI:∀b,D' b->D b∨w.heap.size<=b) (hι:∀id B,ι id=some B->ι' id=some B):fN P hs D' ι' g w':=by
 have hr:∀a v,cQ P w D ι a v->cQ P w' D' ι' a v:=fun a v h=>h.frame (fun b hd=>hb b (S.dead b hd)) hD hι
 have lt:∀{id r B},g id=some r->ι id=some B->B.b<w.heap.size:=fun {id r B} h hB=>by
  obtain⟨B',dH,R,_⟩:=S.row id r h
  rw[hB]at dH;injection dH with dH;subst dH
  exact R.lt
 refine⟨Nat.le_trans S.lo hz,hD',fun id r h=>?_,fun id jW r r' B B' h h' hw hB dH he=>?_⟩
 ·obtain⟨B,hB,R,h1,h2⟩:=S.row id r h
  exact⟨B,hι _ _ hB,R.frame (hb _ (lt h hB)) hr,h1,fun hw hd=>by
   rcases jI _ hd with hd|hd
   ·exact h2 hw hd
   ·have:=lt h hB;omega⟩
 ·obtain⟨C,hC,_⟩:=S.row id r h
  obtain⟨C',AL,_⟩:=S.row jW r' h'
  have e1:=hι _ _ hC
  have e2:=hι _ _ AL
  rw[hB]at e1;injection e1 with e1;subst e1
  rw[dH]at e2;injection e2 with e2;subst e2
  exact S.inj id jW r r' _ _ h h' hw hC AL he
theorem Step.stay (S:fN P hs D ι g w) (hb:∀b,b<w.heap.size->w'.heap[b]? =w.heap[b]?) (hz:w.heap.size<=w'.heap.size) (e1:w'.os=w.os) (e2:w'.tape=w.tape) (e3:w'.output=w.output) (hD:∀b,D b->D' b) (jI:∀b,D' b->D b∨w.heap.size<=b) (hι:∀id B,ι id=some B->ι' id=some B):Step hs D ι w D' ι' w':=
 ⟨⟨e1,e2,e3,hz,fun k hk=>hb k (Nat.lt_of_lt_of_le hk S.lo)⟩,fun b hd=>hb b (S.dead b hd),hD,hι,fun b h=>(jI b h).imp_right (Nat.le_trans S.lo)⟩
theorem fN.alloc (S:fN P hs D ι g w) {cells:Array Value} {T:TypeId} {r:Row} (hh:w'.heap=w.heap.push (.cells cells T (0,0))) (hn:ι id=none) (hw:r.w=true) (h1:r.rows.length*r.sz<=cells.size) (h2:∀cs∈r.rows,cs.length=r.sz) (h3:∀cs∈r.rows,∀a∈cs,a.cell=true)
  (h4:∀i j cs a,r.rows[i]? =some cs->cs[j]? =some a->∃x,cells[i*r.sz+j]? =some x/\cQ P w D ι a x):fN P hs D (kd ι id ⟨w.heap.size,r.sz,cells.size,none⟩) (bC g id r) w':=by
 have hb:∀b,b<w.heap.size->w'.heap[b]? =w.heap[b]? :=fun b ea=>by rw[hh,Array.getElem?_push,if_neg ad]
 have hz:w.heap.size<=w'.heap.size:=by rw[hh];simp
 have S':=S.stay (D':=D) (ι':=kd ι id ⟨w.heap.size,r.sz,cells.size,none⟩) hb hz (fun _ h=>h) (fun b hd=>Nat.lt_of_lt_of_le (S.dead b hd) hz) (fun _ h=>.inl h) (fB hn)
 have hr:∀a v,cQ P w D ι a v->cQ P w' D (kd ι id ⟨w.heap.size,r.sz,cells.size,none⟩) a v:=fun a v h=>h.frame (fun b hd=>hb b (S.dead b hd)) (fun _ h=>h) (fB hn)
 have jI:w'.heap[w.heap.size]? =some (.cells cells T (0,0)):=by rw[hh];simp
 have gone:g id=none:=by
  cases hg:g id with
  |none=>rfl
  |some q=>
   obtain⟨B,hB,_⟩:=S.row id q hg
   rw[hn]at hB;cases hB
 have lt:∀{i q B},g i=some q->ι i=some B->B.b<w.heap.size:=fun {i q B} h hB=>by
  obtain⟨B',dH,R,_⟩:=S.row i q h
  rw[hB]at dH;injection dH with dH;subst dH
  exact R.lt
 refine⟨S'.lo,S'.dead,fun i q h=>?_,fun i i' q q' B B' h h' O4 hB dH he=>?_⟩
 ·unfold bC at h
  split at h
  ·rename_i e
   subst e
   injection h with h;subst h
   refine⟨_,eh _ _ _,kC.obj ⟨rfl,⟨cells,T,jI,rfl⟩,h1,h2,h3,fun k j cs a hk hj=>?_⟩ rfl,fun _=>S.lo,fun _ hd=>?_⟩
   ·obtain⟨x,hx,hrx⟩:=h4 k j cs a hk hj
    exact⟨x,by simp[World.cell?,jI,hx],hr _ _ hrx⟩
   ·have:=S.dead _ hd;simp at this
  ·exact S'.row i q h
 ·unfold bC at h h'
  split at h
  ·rename_i e
   split at h'
   ·rename_i e';exact e.trans e'.symm
   ·exfalso
    rename_i e'
    subst e
    rw[eh]at hB;injection hB with hB;subst hB
    rw[fA e']at dH
    have:=lt h' dH
    simp at he;omega
  ·rename_i e
   split at h'
   ·exfalso
    rename_i e'
    subst e'
    rw[eh]at dH;injection dH with dH;subst dH
    rw[fA e]at hB
    have:=lt h hB
    simp at he;omega
   ·exact S'.inj i i' q q' B B' h h' O4 hB dH he
theorem fN.put (S:fN P hs D ι g w) {r r':Row} {B:qM} {cur cur':Array Value} {T:TypeId} (hid:g id=some r) (hw:r.w=true) (hB:ι id=some B) (hblk:w.heap[B.b]? =some (.cells cur T (0,0))) (eU:cur'.size=cur.size)
  (h0:r'.w=true) (h1:r'.sz=r.sz) (h2:r'.rows.length*r'.sz<=B.C) (h3:∀cs∈r'.rows,cs.length=r'.sz) (h4:∀cs∈r'.rows,∀a∈cs,a.cell=true)
  (h5:∀i j cs a,r'.rows[i]? =some cs->cs[j]? =some a->∃v,cur'[i*r.sz+j]? =some v/\cQ P w D ι a v):fN P hs D ι (bC g id r') (w.setRow B.b cur')/\Step hs D ι w D ι (w.setRow B.b cur'):=by
 obtain⟨B0,tG,RO,jH,kD⟩:=S.row id r hid
 rw[hB]at tG;injection tG with tG;subst tG
 have tJ:=RO.Jv hblk
 have R:=RO.row tJ
 have hd:∀b,D b->(w.setRow B.b cur').heap[b]? =w.heap[b]? :=fun b hb=>setRow_other w B.b b cur' (by rintro rfl;exact kD hw hb)
 have hr:∀a v,cQ P w D ι a v->cQ P (w.setRow B.b cur') D ι a v:=fun a v h=>h.frame hd (fun _ h=>h) (fun _ _ h=>h)
 have hC:cur.size=B.C:=by
  obtain⟨c,T',h1,h2⟩:=R.vH
  rw[hblk]at h1;injection h1 with h1;injection h1 with h1 IF;subst h1;exact h2
 refine⟨⟨by simpa using S.lo,fun b hb=>by simpa using S.dead b hb,fun i q h=>?_,fun i i' q q' C C' h h' O4 hC AL he=>?_⟩,⟨⟨by simp,by simp,by simp,by simp,fun k hk=>setRow_other w B.b k cur' (by have:=jH hw;omega)⟩,hd,fun _ h=>h,fun _ _ h=>h,fun _ h=>.inl h⟩⟩
 ·unfold bC at h
  split at h
  ·rename_i e
   subst e
   injection h with h;subst h
   refine⟨B,hB,kC.obj ⟨by rw[h1];exact R.sz,⟨cur',T,setRow_heap w B.b cur cur' T _ hblk,by rw[eU];exact hC⟩,h2,h3,h4,fun k j cs a hk hj=>?_⟩ tJ,fun _=>jH hw,fun _=>kD hw⟩
   obtain⟨v,hv,jV⟩:=h5 k j cs a hk hj
   exact⟨v,by rw[cell_setRow_same w B.b _ cur cur' T _ hblk,h1];exact hv,hr _ _ jV⟩
  ·rename_i e
   obtain⟨C,hC,RC,k1,k2⟩:=S.row i q h
   refine⟨C,hC,RC.frame (setRow_other w B.b C.b cur' (fun Kj=>e ?_)) hr,k1,k2⟩
   exact(S.inj id i r q B C hid h hw hB hC Kj.symm).symm
 ·unfold bC at h h'
  have get:∀j p,(if j=id then some r' else g j)=some p->∃p0,g j=some p0/\(p.w=true->p0.w=true):=fun j p hp=>by
   split at hp
   ·rename_i e;subst e;injection hp with hp;subst hp;exact⟨r,hid,fun _=>hw⟩
   ·exact⟨p,hp,fun h=>h⟩
  obtain⟨p,hp,Nz⟩:=get _ _ h
  obtain⟨p',L1,_⟩:=get _ _ h'
  exact S.inj i i' p p' C C' hp L1 (Nz O4) hC AL he
theorem fN.rename (S:fN P hs D ι g w) {i:Id} {r:Row} {B:qM} (hi:g i=some r) (hw:r.w=true) (hB:ι i=some B) (hn:ι id=none):fN P hs D (kd ι id B) (bC (bx g i) id r) w:=by
 have S':=S.stay (w':=w) (D':=D) (ι':=kd ι id B) (fun _ _=>rfl) (Nat.le_refl _) (fun _ h=>h) S.dead (fun _ h=>.inl h) (fB hn)
 have gQ:i≠id:=by rintro rfl;rw[hn]at hB;cases hB
 obtain⟨B1,xk,R,k1,k2⟩:=S'.row i r hi
 rw[fA gQ,hB]at xk;injection xk with xk;subst xk
 have get:∀j p,bC (bx g i) id r j=some p->(j=id/\p=r)∨(j≠id/\j≠i/\g j=some p):=fun j p hp=>by
  unfold bC bx at hp
  split at hp
  ·rename_i e;injection hp with hp;exact .inl ⟨e,hp.symm⟩
  ·rename_i e
   split at hp
   ·cases hp
   ·rename_i e';exact .inr ⟨e,e',hp⟩
 refine⟨S.lo,S.dead,fun j p h=>?_,fun j j' p p' C C' h h' Nz hC AL he=>?_⟩
 ·rcases get j p h with⟨rfl,rfl⟩|⟨_,_,hp⟩
  ·exact⟨B,eh _ _ _,R,k1,k2⟩
  ·exact S'.row j p hp
 ·rcases get j p h with⟨rfl,rfl⟩|⟨q1,q2,hp⟩
  ·rcases get j' p' h' with⟨rfl,rfl⟩|⟨q1',q2',L1⟩
   ·rfl
   ·exfalso
    rw[eh]at hC;injection hC with hC;subst hC
    rw[fA q1']at AL
    exact q2' (S.inj i j' p p' B C' hi L1 hw hB AL he).symm
  ·rcases get j' p' h' with⟨rfl,rfl⟩|⟨q1',q2',L1⟩
   ·exfalso
    rw[eh]at AL;injection AL with AL;subst AL
    rw[fA q1]at hC
    exact q2 (S.inj j i p p' C B hp hi Nz hC hB he)
   ·rw[fA q1]at hC
    rw[fA q1']at AL
    exact S.inj j j' p p' C C' hp L1 Nz hC AL he
def zS (P:Program) (hs:Nat) (a:Act) (o:Oper) (w:World) (D:Nat->Prop) (ι:Names) (id:Id) (v:AV) (g':Rows):Prop:=
 ∃u w' ι',((execOp a.eval o).run P w=.ok (.value u) w'∨(execOp a.eval o).run P w=.ok .skip w'/\u=undef)/\Step hs D ι w D ι' w'/\fN P hs D ι' g' w'/\cQ P w' D ι' v u/\∀i,i≠id->ι' i=ι i
theorem zk {xs:List AV} {vs:Array Value} (h:eP P w D ι xs vs) (hf:∀a∈xs,a.cell=true):∀v∈vs.toList,v.oneCell'=true:=by
 intro v hv
 obtain⟨j,hj,rfl⟩:=List.getElem_of_mem hv
 have Kt:j<xs.length:=by rw[<-h.1];simpa using hj
 obtain⟨u,hu,hr⟩:=h.2 j _ (List.getElem?_eq_getElem Kt)
 have hc:=hr.xQ (hf _ (List.getElem_mem Kt))
 have:vs.toList[j]=u:=by
  have:vs.toList[j]? =some u:=by simpa using hu
  rw[List.getElem?_eq_getElem hj]at this;injection this
 rw[this]
 cases u<;>simp_all [Value.oneCell']
theorem ja {i j n m:Nat} (h:i<n) (hj:j<m):i*m+j<n*m:=by
 have:(i+1)*m<=n*m:=Nat.mul_le_mul_right _ h
 rw[Nat.add_mul,Nat.one_mul]at this;omega
theorem kC.cur {B:qM} {r:Row} (R:kC P w D ι B r):∃cur T,w.heap[B.b]? =some (.cells cur T (0,0))/\cur.size=B.C/\∀i j cs a,r.rows[i]? =some cs->cs[j]? =some a->∃v,cur[i*r.sz+j]? =some v/\cQ P w D ι a v:=by
 obtain⟨cur,T,h1,h2⟩:=R.vH
 refine⟨cur,T,h1,h2,fun i j cs a hi hj=>?_⟩
 obtain⟨v,hv,hr⟩:=R.at_ i j cs a hi hj
 exact⟨v,by simpa[World.cell?,h1]using hv,hr⟩
theorem Iz {t:TypeId} {n:Nat} {x y:Operand} {x' y':O} {g':Rows} (S:fN P hs D ι g w) (E:cF P w D ι env a) (ho:o.op=.store t x y) (hn:dS P t=some n) (hx:cO P x=some x') (hy:cO P y=some y')
  (hv:bm g n (cJ env y') (cJ env x')=some g'):zS P hs a o w D ι id .undef g':=by
 have rx:=cX E hx
 have ry:=cX E hy
 unfold bm at hv
 split at hv
 ·rename_i i k off hp
  rw[hp]at rx
  simp only[Option.bind_eq_some_iff]at hv
  obtain⟨r,hg,cs,dx,hv⟩:=hv
  split at hv
  ·rename_i hc
   obtain⟨c1,c2,c3,c4⟩:=hc
   simp at hv;subst hv
   obtain⟨B,he,hB,hk⟩:=iJ rx
   obtain⟨B',dH,R,jH,kD⟩:=S.row i r hg
   rw[hB]at dH;injection dH with dH;subst dH
   replace R:=R.row hk
   obtain⟨cur,T,hblk,hC,sG⟩:=R.cur
   have hL:=oQ ry c3
   have h1:=zk hL (List.all_eq_true.1 c3)
   have Pc:(a.eval y).cells.size=n:=by rw[hL.1,c2]
   have jz:=(List.getElem?_eq_some_iff.1 dx).1
   have hlen:=R.len cs (List.mem_of_getElem? dx)
   have hbound:k*r.sz+r.sz<=r.rows.length*r.sz:=by
    have:(k+1)*r.sz<=r.rows.length*r.sz:=Nat.mul_le_mul_right _ jz
    rwa [Nat.add_mul,Nat.one_mul]at this
   have hf:=R.fits
   have ee:=run_storeCells_at P B.b (k*B.sz+off) T (a.eval y).cells.toList 0 cur w hblk (by rw[R.sz];simp only[Array.length_toList];omega) h1
   simp only[Nat.add_zero,Array.length_toList]at ee
   have sK:=S.put (r':={r with rows:=r.rows.set k (bV cs off (cJ env y').cells)}) hg c1 hB hblk (cur':=(cur.toList.take (k*B.sz+off)++(a.eval y).cells.toList++cur.toList.drop (k*B.sz+off+(a.eval y).cells.size)).toArray)
    (by rw[R.sz];simp;omega) c1 rfl (by simpa using R.fits) (fun c Kk=>by
     rcases List.mem_or_eq_of_mem_set Kk with h|rfl
     ·exact R.len c h
     ·simp[bV];omega) (fun c Kk b hb=>by
     rcases List.mem_or_eq_of_mem_set Kk with h|rfl
     ·exact R.flat c h b hb
     ·unfold bV at hb
      rcases List.mem_append.1 hb with hb|hb
      ·rcases List.mem_append.1 hb with hb|hb
       ·exact R.flat cs (List.mem_of_getElem? dx) b (List.mem_of_mem_take hb)
       ·exact List.all_eq_true.1 c3 b hb
      ·exact R.flat cs (List.mem_of_getElem? dx) b (List.mem_of_mem_drop hb)) (fun i2 j c b pg hj=>by
     rw[R.sz]
     simp only[List.getElem?_toArray]
     by_cases yy:i2=k
     ·subst yy
      rw[List.getElem?_set_self jz]at pg
      injection pg with pg;subst pg
      unfold bV at hj
      by_cases hjo:j<off
      ·rw[List.append_assoc,List.getElem?_append_left (by simp;omega),List.getElem?_take,if_pos hjo]at hj
       rw[List.append_assoc,List.getElem?_append_left (by simp;omega),List.getElem?_take,if_pos ad]
       simpa using sG _ _ _ _ dx hj
      ·by_cases ib:j<off+n
       ·rw[List.append_assoc,List.getElem?_append_right (by simp;omega),List.getElem?_append_left (by simp;omega)]at hj
        rw[List.append_assoc,List.getElem?_append_right (by simp;omega),List.getElem?_append_left (by simp;omega)]
        simp only[List.length_take]at hj ⊢
        rw[show j-min off cs.length=j-off by omega]at hj
        rw[show i2*r.sz+j-min (i2*r.sz+off) cur.toList.length=j-off by simp;omega]
        simpa using hL.2 _ _ hj
       ·rw[List.getElem?_append_right (by simp;omega)]at hj
        rw[List.getElem?_append_right (by simp;omega)]
        simp only[List.length_append,List.length_take,List.getElem?_drop,Array.length_toList]at hj ⊢
        rw[show off+(cJ env y').cells.length+(j-(min off cs.length+(cJ env y').cells.length))=j by omega]at hj
        rw[show i2*r.sz+off+(a.eval y).cells.size+(i2*r.sz+j-(min (i2*r.sz+off) cur.size+(a.eval y).cells.size))=i2*r.sz+j by omega]
        simpa using sG _ _ _ _ dx hj
     ·rw[List.getElem?_set_ne (fun e=>yy e.symm)]at pg
      have hi2l:=(List.getElem?_eq_some_iff.1 pg).1
      have gJ:j<r.sz:=by rw[<-R.len c (List.mem_of_getElem? pg)];exact(List.getElem?_eq_some_iff.1 hj).1
      have:=sG _ _ _ _ pg hj
      rcases Nat.lt_or_gt_of_ne yy with ea|wc
      ·have h2:i2*r.sz+j<k*r.sz:=ja ea gJ
       rw[List.append_assoc,List.getElem?_append_left (by simp;omega),List.getElem?_take,if_pos ad]
       simpa using this
      ·have h2:k*r.sz+r.sz<=i2*r.sz:=by
        have:(k+1)*r.sz<=i2*r.sz:=Nat.mul_le_mul_right _ wc
        rwa [Nat.add_mul,Nat.one_mul]at this
       rw[List.getElem?_append_right (by simp;omega)]
       simp only[List.length_append,List.length_take,List.getElem?_drop,Array.length_toList]
       rw[show k*r.sz+off+(a.eval y).cells.size+(i2*r.sz+j-(min (k*r.sz+off) cur.size+(a.eval y).cells.size))=i2*r.sz+j by omega]
       simpa using this)
   refine⟨undef,_,ι,.inr ⟨?_,rfl⟩,sK.2,sK.1,cQ.undef,fun _ _=>rfl⟩
   simp only[execOp,ho,he,Instr.storeAt,Instr.sureAddr,storeVar,Sem.run_bind,Sem.run_pure,Result.andThen_ok,run_sizeOf hn,Pc,ne_eq,not_true_eq_false,if_false,ee]
  ·simp at hv
 ·simp at hv
end
end Go.Proofs.YtphenfakmdknlaaGreat.V

namespace Go.Proofs.YtphenfakmdknlaaGreat.V
open Go.RowKit
variable {P:Program} {w w':World} {D D':Nat->Prop} {ι ι':Names}
section
variable {g:Rows} {hs:Nat} {env:Env} {a:Act} {o:Oper} {id:Id} {v:AV}
theorem pM (S:fN P hs D ι g w) {y:AV} {u:Value} {ys:List (List AV)} {sz:Nat} (hr:cQ P w D ι y u) (hy:aT g y=some ys) (hl:∀c∈ys,c.length=sz) (hf:∀c∈ys,∀b∈c,b.cell=true):
  ∃A c,u=.slice A ys.length c/\(ys=[]∨∃b o,∃news:List Value,A=some ⟨b,o,none⟩/\news.length=ys.length*sz/\(∀j v,news[j]? =some v->w.cell? ⟨b,o+j,none⟩=some v)/\eP P w D ι ys.flatten news.toArray/\∀v∈news,v.oneCell'=true):=by
 have fin:∀b o,ys≠[]->(∀i j cs x,ys[i]? =some cs->cs[j]? =some x->∃v,w.cell? ⟨b,o+(i*sz+j),none⟩=some v/\cQ P w D ι x v)->
   ∃news:List Value,news.length=ys.length*sz/\(∀j v,news[j]? =some v->w.cell? ⟨b,o+j,none⟩=some v)/\eP P w D ι ys.flatten news.toArray/\∀v∈news,v.oneCell'=true:=by
  intro b o _ h
  have hlen:=F6 hl
  have at_:∀k,k<ys.length*sz->∃x,ys.flatten[k]? =some x/\∃v,w.cell? ⟨b,o+k,none⟩=some v/\cQ P w D ι x v:=by
   intro k hk
   have jo:0<sz:=by
    rcases Nat.eq_zero_or_pos sz with h0|h0
    ·subst h0;simp at hk
    ·exact h0
   have hi:k / sz<ys.length:=Nat.div_lt_of_lt_mul (by rw[Nat.mul_comm];exact hk)
   have hj:k % sz<sz:=Nat.mod_lt _ jo
   have dx:=List.getElem?_eq_getElem hi
   have gJ:k % sz<ys[k / sz].length:=by rw[hl _ (List.getElem_mem hi)];exact hj
   have hx:=List.getElem?_eq_getElem gJ
   have e:k / sz*sz+k % sz=k:=by rw[Nat.mul_comm];exact Nat.div_add_mod _ _
   refine⟨_,by rw[<-flat_get hl dx hx,e],?_⟩
   obtain⟨v,hv,jV⟩:=h _ _ _ _ dx hx
   rw[e]at hv
   exact⟨v,hv,jV⟩
  let news:=(List.range (ys.length*sz)).map fun k=>(w.cell? ⟨b,o+k,none⟩).getD undef
  have hn:∀k,k<ys.length*sz->∀v,w.cell? ⟨b,o+k,none⟩=some v->news[k]? =some v:=fun k hk v hv=>by
   simp only[news,List.getElem?_map,List.getElem?_range hk,Option.map_some,hv,Option.getD_some]
  have hR:eP P w D ι ys.flatten news.toArray:=⟨by simp[news,hlen],fun j x hx=>by
   have gJ:=(List.getElem?_eq_some_iff.1 hx).1
   rw[hlen]at gJ
   obtain⟨x',tM,v,hv,jV⟩:=at_ j gJ
   rw[hx]at tM;injection tM with tM;subst tM
   exact⟨v,by simpa using hn j gJ v hv,jV⟩⟩
  refine⟨news,by simp[news],fun j v hj=>?_,hR,?_⟩
  ·have gJ:j<ys.length*sz:=by have:=(List.getElem?_eq_some_iff.1 hj).1;simpa[news]using this
   obtain⟨x,_,v',lU,_⟩:=at_ j gJ
   rw[hn j gJ v' lU]at hj
   injection hj with hj
   rw[<-hj];exact lU
  ·have:=zk hR (fun x hx=>by
    obtain⟨c,hc,Si⟩:=List.mem_flatten.1 hx
    exact hf c hc x Si)
   simpa using this
 unfold aT at hy
 split at hy
 ·simp at hy;subst hy
  exact⟨none,0,jq hr,.inl rfl⟩
 ·rename_i rows
  simp at hy;subst hy
  obtain⟨A,c,he,_,_,h3⟩:=td hr
  refine⟨A,c,he,?_⟩
  rcases h3 with h3|⟨b,oo,sz',vs,rfl,hD,xo,_,hc,hi⟩
  ·exact .inl h3
  ·by_cases h0:rows=[]
   ·exact .inl h0
   ·have tL:sz'=sz:=by
     cases rows with
     |nil=>exact(h0 rfl).elim
     |cons c r=>rw[<-xo c (by simp),hl c (by simp)]
    subst tL
    obtain⟨news,q1,q2,q3,q4⟩:=fin b oo h0 (fun i j cs x dx hx=>⟨_,hc i j (List.getElem?_eq_some_iff.1 dx).1 (by rw[<-xo cs (List.mem_of_getElem? dx)];exact(List.getElem?_eq_some_iff.1 hx).1),.ez _ _ (hi i j cs x dx hx)⟩)
    exact .inr ⟨b,oo,news,rfl,q1,q2,q3,q4⟩
 ·rename_i i off len
  simp only[Option.bind_eq_some_iff]at hy
  obtain⟨r,hg,hy⟩:=hy
  split at hy
  ·rename_i hle
   simp at hy;subst hy
   obtain⟨oo,cap,B,he,hB,h1,h2,h3,h4,hk⟩:=gD hr
   obtain⟨B',dH,R,_,_⟩:=S.row i r hg
   rw[hB]at dH;injection dH with dH;subst dH
   replace R:=R.row hk
   have hlen:((r.rows.drop off).take len).length=len:=by simp;omega
   refine⟨some ⟨B.b,oo,none⟩,cap,by rw[hlen];exact he,?_⟩
   by_cases h0:(r.rows.drop off).take len=[]
   ·exact .inl h0
   ·have tL:r.sz=sz:=by
     cases hq:(r.rows.drop off).take len with
     |nil=>exact(h0 hq).elim
     |cons c q=>
      have hm:c∈(r.rows.drop off).take len:=by rw[hq];simp
      rw[<-hl c hm,R.len c (List.mem_of_mem_drop (List.mem_of_mem_take hm))]
    have hlp:0<len:=by rw[<-hlen];exact List.length_pos_iff.2 h0
    have uI:oo=off*B.sz:=by rcases h2 with h2|h2<;>omega
    obtain⟨news,q1,q2,q3,q4⟩:=fin B.b oo h0 (fun i2 j cs x dx hx=>by
     rw[List.getElem?_take]at dx
     split at dx
     ·rw[List.getElem?_drop]at dx
      obtain⟨v,hv,jV⟩:=R.at_ _ _ _ _ dx hx
      refine⟨v,?_,jV⟩
      rw[uI,R.sz,<-tL]
      rw[Nat.add_mul]at hv
      rw[<-Nat.add_assoc]
      exact hv
     ·simp at dx)
    exact .inr ⟨B.b,oo,news,rfl,q1,q2,q3,q4⟩
  ·simp at hy
 ·simp at hy
theorem mW {t ty e:TypeId} {i:TypeInfo} (ht:P.underlying t=some (.slice e)) (hi:P.info? e=some i) (A:Option Addr) (n c:Nat) (hn:n<=c) (B:Option Addr) (d:Nat):
  (Builtin.append_ #[t,t] ty #[.slice A n c,.slice B 0 d]).run P w=.ok (.slice A n c) w:=by
 have hf:(Builtin.firstCells i.size 0 (.slice B 0 d)).run P w=.ok #[] w:=by
  cases B<;>simp[Builtin.firstCells,loadCells,loadCellsFrom]
 cases A with
 |none=>simp[Builtin.append_,run_underlying ht,sizeOf,typeInfo,hi,Builtin.lenOf,hn,hf]
 |some A=>simp[Builtin.append_,run_underlying ht,sizeOf,typeInfo,hi,Builtin.lenOf,hn,hf,storeCells]
theorem ug {t ty e T:TypeId} {i:TypeInfo} (ht:P.underlying t=some (.slice e)) (hi:P.info? e=some i) (b pP BG:Nat) (cur:Array Value) (hg:w.heap[b]? =some (.cells cur T (0,0)))
  (x:Addr) (m c:Nat) (news:List Value) (hl:news.length=m*i.size) (OX:∀j u,news[j]? =some u->w.cell? (x.add j)=some u) (h1:∀u∈news,u.oneCell'=true)
  (fq:pP+m<=BG) (yu:pP*i.size+news.length<=cur.size):
  (Builtin.append_ #[t,t] ty #[.slice (some ⟨b,0,none⟩) pP BG,.slice (some x) m c]).run P w=
   .ok (.slice (some ⟨b,0,none⟩) (pP+m) BG) (w.setRow b (cur.toList.take (pP*i.size)++news++cur.toList.drop (pP*i.size+news.length)).toArray):=by
 have hf:=run_firstCells_some (P:=P) w i.size m x m c news hl OX
 have ee:=run_storeCells_at P b (pP*i.size) T news 0 cur w hg (by simpa using yu) h1
 simp only[Nat.add_zero]at ee
 simp[Builtin.append_,run_underlying ht,sizeOf,typeInfo,hi,Builtin.lenOf,fq,hf,jt,ee]
theorem ym (w:World) (Eu zg:Nat) (e:TypeId) (h:Eu<=cV):Eu<=grownCap w Eu zg e/\grownCap w Eu zg e<=maxLen:=by
 unfold cV at h
 simp only[grownCap,Question.cut,maxLen]
 have:=Nat.mod_lt (w.tape w.drawn (.appendCap Eu zg e)) (show 0<2 ^ 63-Eu by omega)
 omega
theorem fv {x y:Operand} {t:TypeId} {u:Value} (ho:o.op=.call {callee:=.builtin .append,args:= #[x,y],argTypes:= #[t,t]}) (h:(Builtin.append_ #[t,t] o.type #[a.eval x,a.eval y]).run P w=.ok u w'):(execOp a.eval o).run P w=.ok (.value u) w':=by
 simp only[execOp,ho,resolve,Sem.run_bind,Sem.run_pure,Result.andThen_ok,invoke,builtin]
 simp only[List.map_toArray,List.map_cons,List.map_nil]
 rw[h];rfl
theorem zu {T:TypeId} (S:fN P hs D ι g w) (cells:Array Value) (hn:ι id=none) (B:qM):Step hs D ι w D (kd ι id B) (w.drew.alloc (.cells cells T)):=
 Step.stay S (fun k hk=>by show(w.heap.push _)[k]? = _;rw[Array.getElem?_push,if_neg ad]) (by show _<=(w.heap.push _).size;simp) rfl rfl rfl (fun _ h=>h) (fun _ h=>.inl h) (fB hn)
theorem FW {x y:Operand} {x' y':O} {t e:TypeId} {m:Nat} {z:List K} {i:TypeInfo} {ys:List (List AV)} {g':Rows} (S:fN P hs D ι g w) (E:cF P w D ι env a) (hn:ι id=none) (ho:o.op=.call {callee:=.builtin .append,args:= #[x,y],argTypes:= #[t,t]})
  (ht:P.underlying t=some (.slice e)) (eU:dS P e=some (m+1)) (hz:iT P e=some z) (hi:P.info? e=some i) (hby:i.bytes<=32768) (hx:cO P x=some x') (hy:cO P y=some y') (CH:aT g (cJ env y')=some ys)
  (hv:aH g id (m+1) (cJ env x') ys=some (v,g')):zS P hs a o w D ι id v g':=by
 have rx:=cX E hx
 have ry:=cX E hy
 obtain⟨it,zv,mK,sL,NG,hm,yM⟩:=jf hz
 rw[hi]at mK;injection mK with mK;subst mK
 have iO:i.size=m+1:=by simpa[dS,hi]using eU
 have fits:∀n,n<=cV->n*i.bytes<=140737488355328:=fun n h=>by
  unfold cV at h
  have:=Nat.mul_le_mul h hby
  omega
 have e63:∀n,n<=cV->(n:Int)<=9223372036854775807:=fun n h=>by unfold cV at h;omega
 have same:∀(w1:World) (cells:Array Value),w1=w.drew.alloc (.cells cells e)->w1.heap=w.heap.push (.cells cells e (0,0)):=fun w1 cells h=>by subst h;rfl
 have NP:∀l:List (List AV),(l.all fun c=>c.length==m+1&&c.all AV.cell)=true->(∀c∈l,c.length=m+1)/\∀c∈l,∀b∈c,b.cell=true:=fun l h=>by
  rw[List.all_eq_true]at h
  refine⟨fun c hc=>?_,fun c hc b hb=>?_⟩
  ·have:=h c hc;simp at this;exact this.1
  ·have:=h c hc;simp at this;exact this.2 b hb
 unfold aH at hv
 split at hv
 ·rename_i hb
  rw[hb]at rx
  have ex:=jq rx
  split at hv
  ·simp at hv
   obtain⟨rfl,rfl⟩:=hv
   obtain⟨A,c,ey,_⟩:=pM (sz:=m+1) S ry CH (fun c h=>by cases h) (fun c h=>by cases h)
   refine⟨_,w,ι,.inl (fv ho (by rw[ex,ey];exact mW ht hi none 0 0 (Nat.le_refl _) A c)),Step.refl _ _ _ _,S,.ez _ _ .cK,fun _ _=>rfl⟩
  ·rename_i y0 yr
   split at hv
   ·rename_i hc
    simp only[Option.some.injEq,Prod.mk.injEq]at hv
    obtain⟨rfl,rfl⟩:=hv
    obtain⟨hl,hf⟩:=NP _ hc.2
    obtain⟨A,c,ey,h2⟩:=pM (sz:=m+1) S ry CH hl hf
    rcases h2 with h2|⟨b,oo,news,rfl,q1,q2,q3,q4⟩
    ·cases h2
    have gC:=run_append_nil (P:=P) w t o.type e i zv ht hi sL ⟨b,oo,none⟩ (y0::yr).length c news (by rw[iO];exact q1) (fun j v hj=>by rw[jt];exact q2 j v hj) (by simp) (e63 _ hc.1) (by have:=fits _ hc.1;omega)
    obtain⟨g1,g2⟩:=ym w (y0::yr).length 0 e hc.1
    have dx:(news.toArray++Builtin.zeroCells zv.cells (grownCap w (y0::yr).length 0 e-(y0::yr).length)).size=grownCap w (y0::yr).length 0 e*(m+1):=by
     rw[Array.size_append,size_zeroCells,NG,iO]
     simp only[List.size_toArray,q1]
     rw[<-Nat.add_mul];congr 1;omega
    have S1:=S.alloc (w':=w.drew.alloc (.cells (news.toArray++Builtin.zeroCells zv.cells (grownCap w (y0::yr).length 0 e-(y0::yr).length)) e)) (r:=⟨true,m+1,y0::yr⟩) rfl hn rfl (by rw[dx];exact Nat.mul_le_mul_right _ g1) hl hf
     (fun k j cs b2 hk hj=>by
      obtain⟨u,hu,tY⟩:=q3.2 _ _ (flat_get hl hk hj)
      refine⟨u,?_,tY⟩
      have ea:=(Array.getElem?_eq_some_iff.1 hu).1
      dsimp only
      rw[Array.getElem?_append_left ea];exact hu)
    have ee:=zu (T:=e) S (news.toArray++Builtin.zeroCells zv.cells (grownCap w (y0::yr).length 0 e-(y0::yr).length)) hn ⟨w.heap.size,m+1,(news.toArray++Builtin.zeroCells zv.cells (grownCap w (y0::yr).length 0 e-(y0::yr).length)).size,none⟩
    refine⟨_,_,_,.inl (fv ho (by rw[ex,ey];exact gC)),ee,S1,?_,fun _ h=>fA h⟩
    refine .own _ _ _ _ _ _ (eh _ _ _) rfl g1 (.inr (by simp)) ?_ g2
    dsimp only;rw[dx];simp
   ·simp at hv
 ·rename_i i0 len hb
  rw[hb]at rx
  simp only[Option.bind_eq_some_iff]at hv
  obtain⟨r,hg,hv⟩:=hv
  split at hv
  ·rename_i hc
   obtain⟨c1,c2,c3,c4,c5⟩:=hc
   simp only[Option.some.injEq,Prod.mk.injEq]at hv
   obtain⟨rfl,rfl⟩:=hv
   obtain⟨hl,hf⟩:=NP _ c5
   obtain⟨A,c,ey,h2⟩:=pM (sz:=m+1) S ry CH hl hf
   obtain⟨oo,cap,B,ex,hB,h1,uI,h3,h4,hk⟩:=gD rx
   obtain⟨B',dH,R,jH,kD⟩:=S.row _ _ hg
   rw[hB]at dH;injection dH with dH;subst dH
   replace R:=R.row hk
   have Cr:B.sz=m+1:=R.sz.trans c2
   have wE:∀cs∈r.rows++ys,cs.length=m+1:=fun cs dx=>by
    rcases List.mem_append.1 dx with h|h
    ·rw[<-c2];exact R.len cs h
    ·exact hl cs h
   have Kf:∀cs∈r.rows++ys,∀b∈cs,b.cell=true:=fun cs dx=>by
    rcases List.mem_append.1 dx with h|h
    ·exact R.flat cs h
    ·exact hf cs h
   rcases h2 with rfl|⟨yb,yo,news,rfl,q1,q2,q3,q4⟩
   ·have DR:=S.rename hg c1 hB hn
    refine⟨_,w,kd ι id B,.inl (fv ho (by rw[ex,ey];exact mW ht hi _ _ _ h1 A c)),⟨Below.refl _ _,fun _ _=>rfl,fun _ h=>h,fB hn,fun _ h=>.inl h⟩,?_,?_,fun _ h=>fA h⟩
    ·have:(⟨true,m+1,r.rows++[]⟩:Row)=r:=by cases r;simp_all
     rw[this];exact DR
    ·simp only[List.length_nil,Nat.add_zero]
     exact .own _ _ _ _ _ B (eh _ _ _) hk h1 uI h3 h4
   ·obtain⟨cur,T,hblk,hC,sG⟩:=R.cur
    by_cases fq:len+ys.length<=cap
    ·have Qo:ys≠[]->oo=0:=fun h=>by
      rcases uI with uI|uI
      ·have:=List.length_pos_iff.2 h;omega
      ·simpa using uI
     by_cases Sm:ys=[]
     ·subst Sm
      have DR:=S.rename hg c1 hB hn
      refine⟨_,w,kd ι id B,.inl (fv ho (by rw[ex,ey];exact mW ht hi _ _ _ h1 _ c)),⟨Below.refl _ _,fun _ _=>rfl,fun _ h=>h,fB hn,fun _ h=>.inl h⟩,?_,?_,fun _ h=>fA h⟩
      ·have:(⟨true,m+1,r.rows++[]⟩:Row)=r:=by cases r;simp_all
       rw[this];exact DR
      ·simp only[List.length_nil,Nat.add_zero]
       exact .own _ _ _ _ _ B (eh _ _ _) hk h1 uI h3 h4
     have ho0:=Qo Sm
     subst ho0
     have yu:len*i.size+news.length<=cur.size:=by
      rw[iO,q1,hC,<-Nat.add_mul]
      refine Nat.le_trans ?_ h3
      rw[Cr,Nat.zero_add]
      exact Nat.mul_le_mul_right _ fq
     have gC:=ug (ty:=o.type) ht hi B.b len cap cur hblk ⟨yb,yo,none⟩ ys.length c news (by rw[iO];exact q1) (fun j v hj=>by rw[jt];exact q2 j v hj) q4 fq yu
     have kY:cur.toList.length=cur.size:=Array.length_toList
     simp only[iO]at gC yu
     obtain⟨P1,P2⟩:=S.put (r':=⟨true,m+1,r.rows++ys⟩) hg c1 hB hblk (cur':=(cur.toList.take (len*(m+1))++news++cur.toList.drop (len*(m+1)+news.length)).toArray) (by simp only[List.size_toArray,List.length_append,List.length_take,List.length_drop,kY];omega) rfl c2.symm
      (by dsimp only;rw[List.length_append,<-c3,<-Cr];refine Nat.le_trans (Nat.mul_le_mul_right _ fq) (Nat.le_trans (by simp) h3)) wE Kf (fun k j cs b2 hk hj=>by
       simp only[List.getElem?_toArray]
       have gJ:j<m+1:=by rw[<-wE cs (List.mem_of_getElem? hk)];exact(List.getElem?_eq_some_iff.1 hj).1
       rw[c2]
       by_cases jz:k<r.rows.length
       ·rw[List.getElem?_append_left jz]at hk
        have h2:k*(m+1)+j<len*(m+1):=ja ad gJ
        rw[List.append_assoc,List.getElem?_append_left (by simp only[List.length_take,kY];omega),List.getElem?_take,if_pos h2]
        have:=sG k j cs b2 hk hj
        rw[c2]at this;simpa using this
       ·rw[List.getElem?_append_right ad]at hk
        have rR:=(List.getElem?_eq_some_iff.1 hk).1
        have nR:len*(m+1)<=k*(m+1):=Nat.mul_le_mul_right _ ad
        have oL:k*(m+1)+j-len*(m+1)=(k-r.rows.length)*(m+1)+j:=by
         rw[<-c3,Nat.sub_mul];omega
        obtain⟨u,hu,tY⟩:=q3.2 _ _ (flat_get hl hk hj)
        refine⟨u,?_,tY⟩
        have CE:news[(k-r.rows.length)*(m+1)+j]? =some u:=by simpa using hu
        have ea:=(List.getElem?_eq_some_iff.1 CE).1
        rw[List.append_assoc,List.getElem?_append_right (by simp only[List.length_take,kY];omega),List.getElem?_append_left (by simp only[List.length_take,kY];omega)]
        rw[<-CE]
        congr 1
        simp only[List.length_take,kY]
        omega)
     have eX:bC (bx (bC g i0 ⟨true,m+1,r.rows++ys⟩) i0) id ⟨true,m+1,r.rows++ys⟩=bC (bx g i0) id ⟨true,m+1,r.rows++ys⟩:=by
      funext q;simp only[bC,bx]
      by_cases h:q=id<;>by_cases h':q=i0<;>simp[h,h']
     have DR:=P1.rename (i:=i0) (id:=id) (r:=⟨true,m+1,r.rows++ys⟩) (by simp[bC]) rfl hB hn
     rw[eX]at DR
     refine⟨_,_,_,.inl (fv ho (by rw[ex,ey];exact gC)),P2.trans ⟨Below.refl _ _,fun _ _=>rfl,fun _ h=>h,fB hn,fun _ h=>.inl h⟩,DR,?_,fun _ h=>fA h⟩
     exact .own _ _ _ _ _ B (eh _ _ _) hk fq (.inr (by simp)) h3 h4
    ·
     have holds:∃rG:List Value,rG.length=len*(m+1)/\(∀j v,rG[j]? =some v->w.cell? ⟨B.b,oo+j,none⟩=some v)/\eP P w D ι r.rows.flatten rG.toArray:=by
      obtain⟨A2,c2',e2,h2⟩:=pM (sz:=m+1) (u:=.slice (some ⟨B.b,oo,none⟩) len cap) S (.own i0 0 len oo cap B hB hk h1 uI h3 h4) (ys:=r.rows) (by simp[aT,hg,c3]) (fun cs h=>by rw[<-c2];exact R.len cs h) R.flat
      rcases h2 with h2|⟨b2,o2,rG,rfl,p1,p2,p3,_⟩
      ·refine⟨[],by simp[c3,h2],fun j v h=>by simp at h,by rw[h2];exact⟨rfl,fun j a h=>by simp at h⟩⟩
      ·injection e2 with e2 _ _
       injection e2 with e2
       injection e2 with HX e22 _
       subst HX;subst e22
       exact⟨rG,by rw[p1,c3],p2,p3⟩
     obtain⟨rG,p1,p2,p3⟩:=holds
     have gC:=run_append_grow (P:=P) w t o.type e i zv ht hi sL ⟨B.b,oo,none⟩ len cap rG (by rw[iO];exact p1) (fun j v hj=>by rw[jt];exact p2 j v hj) ⟨yb,yo,none⟩ ys.length c news (by rw[iO];exact q1) (fun j v hj=>by rw[jt];exact q2 j v hj) ad (e63 _ c4) (growslice_fits ad (fits _ c4))
     obtain⟨g1,g2⟩:=ym w (len+ys.length) cap e c4
     have dx:(rG.toArray++news.toArray++Builtin.zeroCells zv.cells (grownCap w (len+ys.length) cap e-(len+ys.length))).size=grownCap w (len+ys.length) cap e*(m+1):=by
      rw[Array.size_append,Array.size_append,size_zeroCells,NG,iO]
      simp only[List.size_toArray,q1,p1]
      rw[<-Nat.add_mul,<-Nat.add_mul];congr 1;omega
     have S1:=(S.kill i0).alloc (id:=id) (w':=w.drew.alloc (.cells (rG.toArray++news.toArray++Builtin.zeroCells zv.cells (grownCap w (len+ys.length) cap e-(len+ys.length))) e)) (r:=⟨true,m+1,r.rows++ys⟩) rfl hn rfl (by dsimp only;rw[dx,List.length_append,<-c3];exact Nat.mul_le_mul_right _ g1) wE Kf
      (fun k j cs b2 hk hj=>by
       have xl:=flat_get wE hk hj
       rw[List.flatten_append]at xl
       have hol:rG.length=r.rows.flatten.length:=by have:=p3.1;simpa using this
       dsimp only
       by_cases ea:k*(m+1)+j<r.rows.flatten.length
       ·rw[List.getElem?_append_left ea]at xl
        obtain⟨u,hu,tY⟩:=p3.2 _ _ xl
        refine⟨u,?_,tY⟩
        rw[Array.getElem?_append_left (by simp;omega),Array.getElem?_append_left (by simp;omega)];exact hu
       ·rw[List.getElem?_append_right ad]at xl
        obtain⟨u,hu,tY⟩:=q3.2 _ _ xl
        refine⟨u,?_,tY⟩
        have yz:=(Array.getElem?_eq_some_iff.1 hu).1
        simp only[List.size_toArray]at yz
        rw[Array.getElem?_append_left (by simp;omega),Array.getElem?_append_right (by simp;omega)]
        simp only[List.size_toArray,hol];exact hu)
     have ee:=zu (T:=e) S (rG.toArray++news.toArray++Builtin.zeroCells zv.cells (grownCap w (len+ys.length) cap e-(len+ys.length))) hn ⟨w.heap.size,m+1,(rG.toArray++news.toArray++Builtin.zeroCells zv.cells (grownCap w (len+ys.length) cap e-(len+ys.length))).size,none⟩
     refine⟨_,_,_,.inl (fv ho (by rw[ex,ey];exact gC)),ee,S1,?_,fun _ h=>fA h⟩
     refine .own _ _ _ _ _ _ (eh _ _ _) rfl g1 (.inr (by simp)) ?_ g2
     dsimp only;rw[dx];simp
  ·simp at hv
 ·simp at hv
theorem j9 {x:Operand} {t:TypeId} {u:Value} (ho:o.op=.call {callee:=.builtin .clear,args:= #[x],argTypes:= #[t]}) (h:(Builtin.clear_ #[t] o.type #[a.eval x]).run P w=.ok u w'):(execOp a.eval o).run P w=.ok (.value u) w':=by
 simp only[execOp,ho,resolve,Sem.run_bind,Sem.run_pure,Result.andThen_ok,invoke,builtin]
 simp only[List.map_toArray,List.map_cons,List.map_nil]
 rw[h];rfl
theorem Iy {x:Operand} {x':O} {t e:TypeId} {m:Nat} {z:List K} {g':Rows} (S:fN P hs D ι g w) (E:cF P w D ι env a) (ho:o.op=.call {callee:=.builtin .clear,args:= #[x],argTypes:= #[t]})
  (ht:P.underlying t=some (.slice e)) (eU:dS P e=some (m+1)) (hz:iT P e=some z) (hx:cO P x=some x') (hv:bf g z (cJ env x')=some g'):zS P hs a o w D ι id .undef g':=by
 have rx:=cX E hx
 obtain⟨it,zv,hi,sL,NG,hm,yM⟩:=jf hz
 have iO:it.size=m+1:=by simpa[dS,hi]using eU
 unfold bf at hv
 split at hv
 ·rename_i hb
  rw[hb]at rx
  simp at hv;subst hv
  refine⟨undef,w,ι,.inl (j9 ho (by rw[jq rx];simp only[Builtin.clear_,Sem.run_bind];simp[run_underlying ht,undef])),Step.refl _ _ _ _,S,cQ.undef,fun _ _=>rfl⟩
 ·rename_i i off len hb
  rw[hb]at rx
  simp only[Option.bind_eq_some_iff]at hv
  obtain⟨r,hg,hv⟩:=hv
  split at hv
  ·rename_i hc
   obtain⟨c1,c2,c3⟩:=hc
   simp only[Option.some.injEq]at hv;subst hv
   obtain⟨oo,cap,B,ex,hB,h1,h2,h3,h4,hk⟩:=gD rx
   obtain⟨B',dH,R,jH,kD⟩:=S.row _ _ hg
   rw[hB]at dH;injection dH with dH;subst dH
   replace R:=R.row hk
   obtain⟨cur,T,hblk,hC,sG⟩:=R.cur
   by_cases h0:len=0
   ·subst h0
    have e1:({r with rows:=r.rows.take off++List.replicate 0 (z.map K.av)++r.rows.drop (off+0)}:Row)=r:=by cases r;simp
    rw[e1]
    have e2:bC g i r=g:=by
     funext q;unfold bC;split
     ·rename_i h;rw[h,hg]
     ·rfl
    rw[e2]
    refine⟨undef,w,ι,.inl (j9 ho (by rw[ex];simp only[Builtin.clear_,Sem.run_bind];simp[run_underlying ht,undef])),Step.refl _ _ _ _,S,cQ.undef,fun _ _=>rfl⟩
   ·have zK:oo=off*B.sz:=by rcases h2 with h2|h2<;>omega
    have Cr:B.sz=m+1:=by rw[R.sz,c2,yM,iO]
    have uM:r.sz=m+1:=by rw[<-R.sz,Cr]
    have Pk:zv.cells.size=m+1:=by rw[NG,iO]
    have yL:(Builtin.zeroCells zv.cells len).toList.length=len*(m+1):=by rw[Array.length_toList,size_zeroCells,Pk]
    have Pj:∀k,k<len*(m+1)->∃c,z[k % z.length]? =some c/\(Builtin.zeroCells zv.cells len).toList[k]? =some c.val:=fun k hk=>by
     obtain⟨c,qo,yp⟩:=nk (n:=len*zv.cells.size) hm (by rw[yM,iO];omega) k (by rw[Pk];exact hk)
     exact⟨c,qo,by rw[Array.getElem?_toList];exact yp⟩
    have hbound:(off+len)*(m+1)<=r.rows.length*(m+1):=Nat.mul_le_mul_right _ c3
    have yv:=R.fits
    rw[uM]at yv
    have Rq:(off+len)*(m+1)=off*(m+1)+len*(m+1):=Nat.add_mul _ _ _
    have ee:=run_storeCells_at P B.b oo T (Builtin.zeroCells zv.cells len).toList 0 cur w hblk (by rw[yL,hC,zK,Cr];omega) (by
     intro v hv
     obtain⟨k,hk,rfl⟩:=List.getElem_of_mem hv
     obtain⟨c,_,yp⟩:=Pj k (by rw[<-yL];exact hk)
     rw[List.getElem?_eq_getElem hk]at yp
     injection yp with yp
     rw[yp];cases c<;>rfl)
    simp only[Nat.add_zero]at ee
    have kY:cur.toList.length=cur.size:=Array.length_toList
    obtain⟨P1,P2⟩:=S.put (r':={r with rows:=r.rows.take off++List.replicate len (z.map K.av)++r.rows.drop (off+len)}) hg c1 hB hblk (cur':=(cur.toList.take oo++(Builtin.zeroCells zv.cells len).toList++cur.toList.drop (oo+(Builtin.zeroCells zv.cells len).toList.length)).toArray)
     (by simp only[List.size_toArray,List.length_append,List.length_take,List.length_drop,kY,yL];rw[zK,Cr];omega) c1 rfl (by
      have:(r.rows.take off++List.replicate len (z.map K.av)++r.rows.drop (off+len)).length=r.rows.length:=by simp;omega
      dsimp only;rw[this];exact R.fits) (fun cs dx=>by
      rcases List.mem_append.1 dx with h|h
      ·rcases List.mem_append.1 h with h|h
       ·exact R.len cs (List.mem_of_mem_take h)
       ·rw[List.eq_of_mem_replicate h];simp[c2]
      ·exact R.len cs (List.mem_of_mem_drop h)) (fun cs dx b hb=>by
      rcases List.mem_append.1 dx with h|h
      ·rcases List.mem_append.1 h with h|h
       ·exact R.flat cs (List.mem_of_mem_take h) b hb
       ·rw[List.eq_of_mem_replicate h]at hb
        obtain⟨c,_,rfl⟩:=List.mem_map.1 hb;exact c.lk
      ·exact R.flat cs (List.mem_of_mem_drop h) b hb) (fun k j cs b hk hj=>by
      simp only[List.getElem?_toArray]
      rw[uM]
      rw[zK,Cr,yL]
      by_cases rD:k<off
      ·rw[List.append_assoc,List.getElem?_append_left (by simp;omega),List.getElem?_take,if_pos rD]at hk
       have gJ:j<m+1:=by rw[<-uM,<-R.len cs (List.mem_of_getElem? hk)];exact(List.getElem?_eq_some_iff.1 hj).1
       have h2:=ja rD gJ
       rw[List.append_assoc,List.getElem?_append_left (by simp only[List.length_take,kY];omega),List.getElem?_take,if_pos h2]
       have:=sG k j cs b hk hj
       rw[uM]at this;simpa using this
      ·by_cases rR:k<off+len
       ·rw[List.append_assoc,List.getElem?_append_right (by simp;omega),List.getElem?_append_left (by simp;omega)]at hk
        have km:=List.eq_of_mem_replicate (List.mem_of_getElem? hk)
        subst km
        simp only[List.getElem?_map,Option.map_eq_some_iff]at hj
        obtain⟨q,hq,rfl⟩:=hj
        have gJ:=(List.getElem?_eq_some_iff.1 hq).1
        rw[yM,iO]at gJ
        have nR:off*(m+1)<=k*(m+1):=Nat.mul_le_mul_right _ ad
        have oL:k*(m+1)+j-off*(m+1)=(k-off)*(m+1)+j:=by rw[Nat.sub_mul];omega
        have yz:(k-off)*(m+1)+j<len*(m+1):=ja ad gJ
        rw[List.append_assoc,List.getElem?_append_right (by simp only[List.length_take,kY];omega),List.getElem?_append_left (by simp only[List.length_take,kY,yL];omega)]
        obtain⟨c,qo,yp⟩:=Pj _ yz
        rw[yM,iO,Nat.mul_comm (k-off),Nat.mul_add_mod,Nat.mod_eq_of_lt gJ,hq]at qo
        injection qo with qo;subst qo
        refine⟨q.val,?_,ta q⟩
        rw[<-yp]
        congr 1
        simp only[List.length_take,kY];omega
       ·rw[List.getElem?_append_right (by simp;omega)]at hk
        simp only[List.length_append,List.length_take,List.length_replicate,List.getElem?_drop]at hk
        rw[show off+len+(k-(min off r.rows.length+len))=k by omega]at hk
        have jz:=(List.getElem?_eq_some_iff.1 hk).1
        have nR:(off+len)*(m+1)<=k*(m+1):=Nat.mul_le_mul_right _ ad
        rw[List.getElem?_append_right (by simp only[List.length_append,List.length_take,kY,yL];omega)]
        simp only[List.length_append,List.length_take,kY,yL,List.getElem?_drop]
        rw[show off*(m+1)+len*(m+1)+(k*(m+1)+j-(min (off*(m+1)) cur.size+len*(m+1)))=k*(m+1)+j by omega]
        have:=sG k j cs b hk hj
        rw[uM]at this;simpa using this)
    refine⟨undef,_,ι,.inl (j9 ho ?_),P2,P1,cQ.undef,fun _ _=>rfl⟩
    rw[ex]
    cases len with
    |zero=>exact(h0 rfl).elim
    |succ len=>
     simp only[Builtin.clear_,Sem.run_bind]
     simp[run_underlying ht,zeroValue,typeInfo,hi,sL,ee,undef]
  ·simp at hv
 ·simp at hv
theorem EL {dT sT ty e:TypeId} {it:TypeInfo} (hu:P.underlying dT=some (.slice e)) (hi:P.info? e=some it) (A B:Option Addr) (pP BG Dv Lk:Nat) (h0:Nat.min pP Dv=0):
  (Builtin.copy_ #[dT,sT] ty #[.slice A Dv Lk,.slice B pP BG]).run P w=.ok (goInt 0) w:=by
 cases A<;>cases B<;>simp[Builtin.copy_,run_underlying hu,Builtin.lenOf,Builtin.firstCells,sizeOf,typeInfo,hi,h0,storeCells,loadCells,loadCellsFrom]
theorem EM {dT sT ty e:TypeId} {it:TypeInfo} (hu:P.underlying dT=some (.slice e)) (hi:P.info? e=some it) (A B:Addr) (pP BG Dv Lk:Nat) (cs:List Value) (hn:cs.length=Nat.min pP Dv*it.size) (hl:(loadCells B cs.length).run P w=.ok cs.toArray w) (hs:(storeCells A cs).run P w=.ok () w'):
  (Builtin.copy_ #[dT,sT] ty #[.slice (some A) Dv Lk,.slice (some B) pP BG]).run P w=.ok (goInt (Nat.min pP Dv)) w':=by
 simp[Builtin.copy_,run_underlying hu,Builtin.lenOf,Builtin.firstCells,sizeOf,typeInfo,hi,<-hn,hl,hs]
theorem oh {x y:Operand} {t t2:TypeId} {u:Value} (ho:o.op=.call {callee:=.builtin .copy,args:= #[x,y],argTypes:= #[t,t2]}) (h:(Builtin.copy_ #[t,t2] o.type #[a.eval x,a.eval y]).run P w=.ok u w'):(execOp a.eval o).run P w=.ok (.value u) w':=by
 simp only[execOp,ho,resolve,Sem.run_bind,Sem.run_pure,Result.andThen_ok,invoke,builtin]
 simp only[List.map_toArray,List.map_cons,List.map_nil]
 rw[h];rfl
theorem Ll {x y:Operand} {x' y':O} {t t2 e:TypeId} {m:Nat} {ys:List (List AV)} {v:AV} {g':Rows} (S:fN P hs D ι g w) (E:cF P w D ι env a) (ho:o.op=.call {callee:=.builtin .copy,args:= #[x,y],argTypes:= #[t,t2]})
  (ht:P.underlying t=some (.slice e)) (eU:dS P e=some (m+1)) (hx:cO P x=some x') (hy:cO P y=some y') (CH:aT g (cJ env y')=some ys) (hv:C0 g (m+1) (cJ env x') ys=some (v,g')):zS P hs a o w D ι id v g':=by
 have rx:=cX E hx
 have ry:=cX E hy
 obtain⟨it,hi,iO⟩:∃it,P.info? e=some it/\it.size=m+1:=by
  cases hq:P.info? e with
  |none=>simp[dS,hq]at eU
  |some it=>exact⟨it,rfl,by simpa[dS,hq]using eU⟩
 unfold C0 at hv
 split at hv
 ·rename_i i off len hb
  rw[hb]at rx
  simp only[Option.bind_eq_some_iff]at hv
  obtain⟨r,hg,hv⟩:=hv
  split at hv
  ·rename_i hc
   obtain⟨c1,c2,c3,c4⟩:=hc
   simp only[Option.some.injEq,Prod.mk.injEq]at hv
   obtain⟨rfl,rfl⟩:=hv
   rw[List.all_eq_true]at c4
   have hl:∀c∈ys,c.length=m+1:=fun c hc=>by have:=c4 c hc;simp at this;exact this.1
   have hf:∀c∈ys,∀b∈c,b.cell=true:=fun c hc b hb=>by have:=c4 c hc;simp at this;exact this.2 b hb
   obtain⟨oo,cap,B,ex,hB,h1,h2,h3,h4,hk⟩:=gD rx
   obtain⟨B',dH,R,jH,kD⟩:=S.row _ _ hg
   rw[hB]at dH;injection dH with dH;subst dH
   replace R:=R.row hk
   obtain⟨cur,T,hblk,hC,sG⟩:=R.cur
   obtain⟨A,sc,hu,hA⟩:=pM S ry CH hl hf
   by_cases h0:min ys.length len=0
   ·rw[h0]
    have e1:({r with rows:=r.rows.take off++ys.take 0++r.rows.drop (off+0)}:Row)=r:=by cases r;simp
    rw[e1]
    have e2:bC g i r=g:=by
     funext q;unfold bC;split
     ·rename_i h;rw[h,hg]
     ·rfl
    rw[e2]
    refine⟨goInt 0,w,ι,.inl (oh ho (by rw[ex,hu];exact EL ht hi _ _ _ _ _ _ h0)),Step.refl _ _ _ _,S,.ez _ _ (.int _ _),fun _ _=>rfl⟩
   ·rcases hA with rfl|⟨b,o2,news,rfl,RQ,hsrc,hR,QZ⟩
    ·simp at h0
    have OP:Nat.min ys.length len=min ys.length len:=rfl
    have hky:min ys.length len<=ys.length:=Nat.min_le_left _ _
    have jz:min ys.length len<=len:=Nat.min_le_right _ _
    generalize Kv:min ys.length len=kk at *
    have Kx:len≠0:=ad
    have zK:oo=off*B.sz:=by rcases h2 with h2|h2<;>omega
    have Cr:B.sz=m+1:=by rw[R.sz,c2]
    have uM:r.sz=m+1:=c2
    have LV:kk*(m+1)<=ys.length*(m+1):=Nat.mul_le_mul_right _ hky
    have yL:(news.take (kk*(m+1))).length=kk*(m+1):=by rw[List.length_take,RQ];omega
    have hbound:(off+kk)*(m+1)<=r.rows.length*(m+1):=Nat.mul_le_mul_right _ ad
    have yv:=R.fits
    rw[uM]at yv
    have Rq:(off+kk)*(m+1)=off*(m+1)+kk*(m+1):=Nat.add_mul _ _ _
    have ee:=run_storeCells_at P B.b oo T (news.take (kk*(m+1))) 0 cur w hblk (by rw[yL,hC,zK,Cr];omega) (fun v hv=>QZ v (List.mem_of_mem_take hv))
    have hld:=run_loadCells_list (P:=P) w ⟨b,o2,none⟩ (news.take (kk*(m+1))) (fun j v hj=>by
     rw[List.getElem?_take]at hj
     split at hj
     ·have:=hsrc j v hj
      cases j with
      |zero=>simpa[Addr.add]using this
      |succ j=>simpa[Addr.add]using this
     ·cases hj)
    simp only[Nat.add_zero]at ee
    have kY:cur.toList.length=cur.size:=Array.length_toList
    have htl:(ys.take kk).length=kk:=by rw[List.length_take];omega
    obtain⟨P1,P2⟩:=S.put (r':={r with rows:=r.rows.take off++ys.take kk++r.rows.drop (off+kk)}) hg c1 hB hblk (cur':=(cur.toList.take oo++news.take (kk*(m+1))++cur.toList.drop (oo+(news.take (kk*(m+1))).length)).toArray)
     (by simp only[List.size_toArray,List.length_append,List.length_drop,kY,yL];rw[List.length_take,kY,zK,Cr];omega) c1 rfl (by
      have:(r.rows.take off++ys.take kk++r.rows.drop (off+kk)).length=r.rows.length:=by simp;omega
      dsimp only;rw[this];exact R.fits) (fun cs dx=>by
      rcases List.mem_append.1 dx with h|h
      ·rcases List.mem_append.1 h with h|h
       ·exact R.len cs (List.mem_of_mem_take h)
       ·rw[hl cs (List.mem_of_mem_take h)];exact c2.symm
      ·exact R.len cs (List.mem_of_mem_drop h)) (fun cs dx b hb=>by
      rcases List.mem_append.1 dx with h|h
      ·rcases List.mem_append.1 h with h|h
       ·exact R.flat cs (List.mem_of_mem_take h) b hb
       ·exact hf cs (List.mem_of_mem_take h) b hb
      ·exact R.flat cs (List.mem_of_mem_drop h) b hb) (fun k j cs b hk hj=>by
      simp only[List.getElem?_toArray]
      rw[uM]
      rw[zK,Cr,yL]
      by_cases rD:k<off
      ·rw[List.append_assoc,List.getElem?_append_left (by simp;omega),List.getElem?_take,if_pos rD]at hk
       have gJ:j<m+1:=by rw[<-uM,<-R.len cs (List.mem_of_getElem? hk)];exact(List.getElem?_eq_some_iff.1 hj).1
       have h2:=ja rD gJ
       rw[List.append_assoc,List.getElem?_append_left (by simp only[List.length_take,kY];omega),List.getElem?_take,if_pos h2]
       have:=sG k j cs b hk hj
       rw[uM]at this;simpa using this
      ·by_cases rR:k<off+kk
       ·rw[List.append_assoc,List.getElem?_append_right (by simp;omega),List.getElem?_append_left (by simp;omega)]at hk
        simp only[List.length_take]at hk
        rw[show k-min off r.rows.length=k-off by omega,List.getElem?_take,if_pos ad]at hk
        have gJ:j<m+1:=by rw[<-hl cs (List.mem_of_getElem? hk)];exact(List.getElem?_eq_some_iff.1 hj).1
        have nR:off*(m+1)<=k*(m+1):=Nat.mul_le_mul_right _ ad
        have oL:k*(m+1)+j-off*(m+1)=(k-off)*(m+1)+j:=by rw[Nat.sub_mul];omega
        have yz:(k-off)*(m+1)+j<kk*(m+1):=ja ad gJ
        rw[List.append_assoc,List.getElem?_append_right (by simp only[List.length_take,kY];omega),List.getElem?_append_left (by rw[yL];simp only[List.length_take,kY];omega)]
        obtain⟨u,CF,IZ⟩:=hR.2 ((k-off)*(m+1)+j) b (flat_get hl hk hj)
        refine⟨u,?_,IZ⟩
        rw[List.getElem?_take]
        simp only[List.length_take,kY]
        rw[show k*(m+1)+j-min (off*(m+1)) cur.size=(k-off)*(m+1)+j by omega,if_pos yz]
        simpa using CF
       ·rw[List.getElem?_append_right (by simp;omega)]at hk
        simp only[List.length_append,List.length_take,List.getElem?_drop]at hk
        rw[show off+kk+(k-(min off r.rows.length+min kk ys.length))=k by omega]at hk
        have jz:=(List.getElem?_eq_some_iff.1 hk).1
        have nR:(off+kk)*(m+1)<=k*(m+1):=Nat.mul_le_mul_right _ ad
        rw[List.getElem?_append_right (by rw[List.length_append,yL];simp only[List.length_take,kY];omega)]
        rw[List.getElem?_drop,List.length_append,yL]
        simp only[List.length_take,kY]
        rw[show off*(m+1)+kk*(m+1)+(k*(m+1)+j-(min (off*(m+1)) cur.size+kk*(m+1)))=k*(m+1)+j by omega]
        have:=sG k j cs b hk hj
        rw[uM]at this;simpa using this)
    refine⟨goInt kk,_,ι,.inl (oh ho ?_),P2,P1,.ez _ _ (.int _ _),fun _ _=>rfl⟩
    rw[ex,hu]
    have:=EM (w:=w) (sT:=t2) (ty:=o.type) ht hi ⟨B.b,oo,none⟩ ⟨b,o2,none⟩ ys.length sc len cap _ (by rw[yL,OP,iO]) hld ee
    rw[OP]at this
    exact this
  ·simp at hv
 ·simp at hv
end
end Go.Proofs.YtphenfakmdknlaaGreat.V

namespace Go.Proofs.YtphenfakmdknlaaGreat.V
open Go.RowKit
variable {P:Program} {w w':World} {D D' D2:Nat->Prop} {ι ι' ι2:Names}
section
variable {g:Rows} {hs:Nat}
theorem fJ:∀{n:Nat} {l r:List AV},cR g n l=some r->r.length=l.length/\∀(j:Nat) (b:AV),r[j]? =some b->∃a,l[j]? =some a/\fz g n a=some b
 |n,[],r,h=>by
  rw[cR]at h;simp at h;subst h;simp
 |n,a::l,r,h=>by
  rw[cR]at h
  split at h
  ·rename_i b hb
   simp only[Option.map_eq_some_iff]at h
   obtain⟨r',hr,rfl⟩:=h
   obtain⟨h1,h2⟩:=fJ hr
   refine⟨by simp[h1],fun j c hj=>?_⟩
   cases j with
   |zero=>simp at hj;subst hj;exact⟨a,rfl,hb⟩
   |succ j=>simp at hj ⊢;exact h2 j c hj
  ·simp at h
theorem sE:∀{n:Nat} {l r:List (List AV)},dK g n l=some r->r.length=l.length/\∀(j:Nat) (b:List AV),r[j]? =some b->∃a,l[j]? =some a/\cR g n a=some b
 |n,[],r,h=>by
  rw[dK]at h;simp at h;subst h;simp
 |n,a::l,r,h=>by
  rw[dK]at h
  split at h
  ·rename_i b hb
   simp only[Option.map_eq_some_iff]at h
   obtain⟨r',hr,rfl⟩:=h
   obtain⟨h1,h2⟩:=sE hr
   refine⟨by simp[h1],fun j c hj=>?_⟩
   cases j with
   |zero=>simp at hj;subst hj;exact⟨a,rfl,hb⟩
   |succ j=>simp at hj ⊢;exact h2 j c hj
  ·simp at h
theorem pb (hD:∀b,D b->D2 b) (vH:∀id row,g id=some row->row.w=true->∃B,ι id=some B/\gL P w D ι B row/\D2 B.b):∀(n:Nat) (a:AV) (u:Value) (r:AV),cQ P w D ι a u->fz g n a=some r->cQ P w D2 ι2 r u/\(a.cell=true->jk P w D2 r u/\r.cell=true):=by
 intro n
 induction n with
 |zero=>intro a u r _ h;rw[fz]at h;simp at h
 |succ n ih=>
  intro a u r hr h
  have both:∀{r:AV},jk P w D2 r u->r.cell=true->cQ P w D2 ι2 r u/\(a.cell=true->jk P w D2 r u/\r.cell=true):=fun h1 h2=>⟨.ez _ _ h1,fun _=>⟨h1,h2⟩⟩
  cases a with
  |map id m=>rw[fz]at h;cases h
  |qj id=>rw[fz]at h;cases h
  |own id off len=>
   rw[fz]at h
   split at h
   ·rename_i row hg
    split at h
    ·rename_i hw
     split at h
     ·rename_i hle
      simp only[Option.map_eq_some_iff]at h
      obtain⟨rows,ph,rfl⟩:=h
      obtain⟨B,hB,R,LH⟩:=vH id row hg hw
      obtain⟨o,cap,B',rfl,dH,h1,h2,h3,h4,hk⟩:=gD hr
      rw[hB]at dH;injection dH with dH;subst dH
      replace R:=R.row hk
      obtain⟨l1,l2⟩:=sE ph
      have hlen:rows.length=len:=by rw[l1];simp;omega
      by_cases h0:rows=[]
      ·subst h0
       simp at hlen;subst hlen
       exact both (.zP _ _ h4) rfl
      ·have hlp:0<len:=by rw[<-hlen];exact List.length_pos_iff.2 h0
       have ho:o=off*B.sz:=by rcases h2 with h2|h2<;>omega
       have src:∀i cs,rows[i]? =some cs->∃c0,row.rows[off+i]? =some c0/\cR g n c0=some cs:=fun i cs hi=>by
        obtain⟨c0,jF,hf⟩:=l2 i cs hi
        rw[List.getElem?_take]at jF
        split at jF
        ·rw[List.getElem?_drop]at jF;exact⟨c0,jF,hf⟩
        ·simp at jF
       have cell:∀i j,i<len->j<row.sz->∃c0 a0 v,row.rows[off+i]? =some c0/\c0[j]? =some a0/\w.cell? ⟨B.b,o+(i*row.sz+j),none⟩=some v/\cQ P w D ι a0 v:=fun i j hi hj=>by
        have mK:off+i<row.rows.length:=ad
        have e1:=List.getElem?_eq_getElem mK
        have Kt:j<row.rows[off+i].length:=by rw[R.len _ (List.getElem_mem mK)];exact hj
        obtain⟨v,hv,jV⟩:=R.at_ _ _ _ _ e1 (List.getElem?_eq_getElem Kt)
        refine⟨_,_,v,e1,List.getElem?_eq_getElem Kt,?_,jV⟩
        rw[ho,R.sz,<-hv]
        congr 2
        rw[Nat.add_mul];omega
       refine both (.sl rows B.b o len cap row.sz (fun i j=>(w.cell? ⟨B.b,o+(i*row.sz+j),none⟩).getD undef) hlen h1 h4 LH (fun cs dx=>?_) (fun cs dx b hb=>?_) (fun i j hi hj=>?_) (fun i j cs b hi hj=>?_)) rfl
       ·obtain⟨i,hi,rfl⟩:=List.getElem_of_mem dx
        obtain⟨c0,jF,hf⟩:=src i _ (List.getElem?_eq_getElem hi)
        rw[(fJ hf).1];exact R.len c0 (List.mem_of_getElem? jF)
       ·obtain⟨i,hi,rfl⟩:=List.getElem_of_mem dx
        obtain⟨c0,jF,hf⟩:=src i _ (List.getElem?_eq_getElem hi)
        obtain⟨j,hj,rfl⟩:=List.getElem_of_mem hb
        obtain⟨a0,kg,Gl⟩:=(fJ hf).2 j _ (List.getElem?_eq_getElem hj)
        obtain⟨v,_,jV⟩:=R.at_ _ _ _ _ jF kg
        exact((ih _ _ _ jV Gl).2 (R.flat c0 (List.mem_of_getElem? jF) a0 (List.mem_of_getElem? kg))).2
       ·obtain⟨c0,a0,v,_,_,hv,_⟩:=cell i j hi hj
        simp only[hv,Option.getD_some]
       ·obtain⟨c0,jF,hf⟩:=src i cs hi
        obtain⟨a0,kg,Gl⟩:=(fJ hf).2 j b hj
        have rQ:i<len:=by rw[<-hlen];exact(List.getElem?_eq_some_iff.1 hi).1
        have gJ:j<row.sz:=by rw[<-R.len c0 (List.mem_of_getElem? jF)];exact(List.getElem?_eq_some_iff.1 kg).1
        obtain⟨c1,a1,v,e1,e2,hv,jV⟩:=cell i j rQ gJ
        rw[jF]at e1;injection e1 with e1;subst e1
        rw[kg]at e2;injection e2 with e2;subst e2
        simp only[hv,Option.getD_some]
        exact((ih _ _ _ jV Gl).2 (R.flat c0 (List.mem_of_getElem? jF) a0 (List.mem_of_getElem? kg))).1
     ·simp at h
    ·simp at h
   ·simp at h
  |ptr id i off=>
   rw[fz]at h
   split at h
   ·rename_i row hg
    split at h
    ·rename_i hw
     split at h
     ·rename_i c0 jF
      simp only[Option.map_eq_some_iff]at h
      obtain⟨cs,dx,rfl⟩:=h
      obtain⟨B,hB,R,LH⟩:=vH id row hg hw
      obtain⟨B',rfl,dH,hk⟩:=iJ hr
      rw[hB]at dH;injection dH with dH;subst dH
      replace R:=R.row hk
      obtain⟨l1,l2⟩:=fJ dx
      have at_:∀j b,cs[j]? =some b->∃a0 v,w.cell? ⟨B.b,i*B.sz+off+j,none⟩=some v/\cQ P w D ι a0 v/\a0.cell=true/\fz g n a0=some b:=fun j b hj=>by
       obtain⟨a0,kg,hf⟩:=l2 j b hj
       rw[List.getElem?_drop]at kg
       obtain⟨v,hv,jV⟩:=R.at_ _ _ _ _ jF kg
       refine⟨a0,v,?_,jV,R.flat c0 (List.mem_of_getElem? jF) a0 (List.mem_of_getElem? kg),hf⟩
       rw[R.sz,Nat.add_assoc];exact hv
      refine both (.dI cs B.b _ (fun j=>(w.cell? ⟨B.b,i*B.sz+off+j,none⟩).getD undef) LH (fun b hb=>?_) (fun j hj=>?_) (fun j b hj=>?_)) rfl
      ·obtain⟨j,hj,rfl⟩:=List.getElem_of_mem hb
       obtain⟨a0,v,_,jV,hc,hf⟩:=at_ j _ (List.getElem?_eq_getElem hj)
       exact((ih _ _ _ jV hf).2 hc).2
      ·obtain⟨a0,v,hv,_⟩:=at_ j _ (List.getElem?_eq_getElem hj)
       simp only[hv,Option.getD_some]
      ·obtain⟨a0,v,hv,jV,hc,hf⟩:=at_ j b hj
       simp only[hv,Option.getD_some]
       exact((ih _ _ _ jV hf).2 hc).1
     ·simp at h
    ·simp at h
   ·simp at h
  |agg cs=>
   rw[fz]at h
   simp only[Option.map_eq_some_iff]at h
   obtain⟨r',lS,rfl⟩:=h
   obtain⟨vs,f,rfl,h1,h2,h3,h4⟩:=gV hr
   obtain⟨l1,l2⟩:=fJ lS
   have hI:jk P w D2 (.agg r') (.agg vs):=.agg r' vs f (by rw[h1,l1]) (fun b hb=>by
    obtain⟨j,hj,rfl⟩:=List.getElem_of_mem hb
    obtain⟨a0,kg,hf⟩:=l2 j _ (List.getElem?_eq_getElem hj)
    exact((ih _ _ _ (h4 j a0 kg) hf).2 (h2 a0 (List.mem_of_getElem? kg))).2) (fun j hj=>h3 j (by rw[<-l1];exact hj)) (fun j b hj=>by
    obtain⟨a0,kg,hf⟩:=l2 j b hj
    exact((ih _ _ _ (h4 j a0 kg) hf).2 (h2 a0 (List.mem_of_getElem? kg))).1)
   exact⟨.ez _ _ hI,fun hc=>by simp[AV.cell]at hc⟩
  |im cs=>
   rw[fz]at h
   simp only[Option.map_eq_some_iff]at h
   obtain⟨r',lS,rfl⟩:=h
   obtain⟨vs,f,rfl,h1,h3,h4⟩:=rV hr
   obtain⟨l1,l2⟩:=fJ lS
   exact⟨.im r' vs f (by rw[h1,l1]) (fun j hj=>h3 j (by rw[<-l1];exact hj)) (fun j b hj=>by
    obtain⟨a0,kg,hf⟩:=l2 j b hj
    exact(ih _ _ _ (h4 j a0 kg) hf).1),fun hc=>by simp[AV.cell]at hc⟩
  |fn f cP=>
   rw[fz]at h
   split at h
   ·rename_i dy
    simp only[Option.map_eq_some_iff]at h
    obtain⟨r',lS,rfl⟩:=h
    obtain⟨vs,q,rfl,h0,h1,h3,h4⟩:=wS hr
    obtain⟨l1,l2⟩:=fJ lS
    exact both (.fn f r' vs q h0 (by rw[h1,l1]) (fun j hj=>h3 j (by rw[<-l1];exact hj)) (fun j b hj=>by
     obtain⟨a0,kg,hf⟩:=l2 j b hj
     exact((ih _ _ _ (h4 j a0 kg) hf).2 (List.all_eq_true.1 dy a0 (List.mem_of_getElem? kg))).1)) rfl
   ·simp at h
  |int k m=>rw[fz]at h<;>(try simp at h)<;>(try subst h)<;>(try(rw[dz hr];exact⟨.ez _ _ (.int _ _),fun _=>⟨.int _ _,rfl⟩⟩))<;>(try(intros;simp_all))
  |bool b=>rw[fz]at h<;>(try simp at h)<;>(try subst h)<;>(try(rw[eG hr];exact⟨.ez _ _ (.bool _),fun _=>⟨.bool _,rfl⟩⟩))<;>(try(intros;simp_all))
  |str b=>rw[fz]at h<;>(try simp at h)<;>(try subst h)<;>(try(rw[eY hr];exact⟨.ez _ _ (.str _),fun _=>⟨.str _,rfl⟩⟩))<;>(try(intros;simp_all))
  |cK=>rw[fz]at h<;>(try simp at h)<;>(try subst h)<;>(try(rw[jq hr];exact⟨.ez _ _ .cK,fun _=>⟨.cK,rfl⟩⟩))<;>(try(intros;simp_all))
  |iH=>rw[fz]at h<;>(try simp at h)<;>(try subst h)<;>(try(rw[tb hr];exact⟨.ez _ _ .iH,fun _=>⟨.iH,rfl⟩⟩))<;>(try(intros;simp_all))
  |iQ=>rw[fz]at h<;>(try simp at h)<;>(try subst h)<;>(try(rw[zm hr];exact⟨.ez _ _ .iQ,fun _=>⟨.iQ,rfl⟩⟩))<;>(try(intros;simp_all))
  |tN f cP=>rw[fz]at h<;>(try simp at h)<;>(try(intros;simp_all))
  |iR=>rw[fz]at h<;>(try simp at h)<;>(try subst h)<;>(try(cases hr with|ez _ _ hr=>exact both (hr.frame (fun _ _=>rfl) hD) rfl))<;>(try(intros;simp_all))
  |sl rows=>rw[fz]at h<;>(try simp at h)<;>(try subst h)<;>(try(cases hr with|ez _ _ hr=>exact both (hr.frame (fun _ _=>rfl) hD) rfl))<;>(try(intros;simp_all))
  |dI cs=>rw[fz]at h<;>(try simp at h)<;>(try subst h)<;>(try(cases hr with|ez _ _ hr=>exact both (hr.frame (fun _ _=>rfl) hD) rfl))<;>(try(intros;simp_all))
theorem hZ:∀{n:Nat} {l r:List AV},dM g n l=some r->r.length=l.length/\∀(j:Nat) (b:AV),r[j]? =some b->∃a,l[j]? =some a/\fu g n a=some b
 |n,[],r,h=>by
  rw[dM]at h;simp at h;subst h;simp
 |n,a::l,r,h=>by
  rw[dM]at h
  split at h
  ·rename_i b hb
   simp only[Option.map_eq_some_iff]at h
   obtain⟨r',hr,rfl⟩:=h
   obtain⟨h1,h2⟩:=hZ hr
   refine⟨by simp[h1],fun j c hj=>?_⟩
   cases j with
   |zero=>simp at hj;subst hj;exact⟨a,rfl,hb⟩
   |succ j=>simp at hj ⊢;exact h2 j c hj
  ·simp at h
theorem ra:∀{n:Nat} {l r:List (List AV)},fx g n l=some r->r.length=l.length/\∀(j:Nat) (b:List AV),r[j]? =some b->∃a,l[j]? =some a/\dM g n a=some b
 |n,[],r,h=>by
  rw[fx]at h;simp at h;subst h;simp
 |n,a::l,r,h=>by
  rw[fx]at h
  split at h
  ·rename_i b hb
   simp only[Option.map_eq_some_iff]at h
   obtain⟨r',hr,rfl⟩:=h
   obtain⟨h1,h2⟩:=ra hr
   refine⟨by simp[h1],fun j c hj=>?_⟩
   cases j with
   |zero=>simp at hj;subst hj;exact⟨a,rfl,hb⟩
   |succ j=>simp at hj ⊢;exact h2 j c hj
  ·simp at h
theorem DJ (vH:∀id row,g id=some row->row.w=true->∃B,ι id=some B/\gL P w D ι B row/\D2 B.b):∀(n:Nat) (a:AV) (u:Value) (r:AV),cQ P w D ι a u->fu g n a=some r->cQ P w D2 ι2 r u/\(a.cell=true->jk P w D2 r u/\r.cell=true):=by
 intro n
 induction n with
 |zero=>intro a u r _ h;rw[fu]at h;simp at h
 |succ n ih=>
  intro a u r hr h
  have both:∀{r:AV},jk P w D2 r u->r.cell=true->cQ P w D2 ι2 r u/\(a.cell=true->jk P w D2 r u/\r.cell=true):=fun h1 h2=>⟨.ez _ _ h1,fun _=>⟨h1,h2⟩⟩
  cases a with
  |map id m=>rw[fu]at h<;>simp_all
  |qj id=>rw[fu]at h<;>simp_all
  |own id off len=>
   rw[fu]at h
   split at h
   ·rename_i row hg
    split at h
    ·rename_i hw
     split at h
     ·rename_i hle
      simp only[Option.map_eq_some_iff]at h
      obtain⟨rows,ph,rfl⟩:=h
      obtain⟨B,hB,R,LH⟩:=vH id row hg hw
      obtain⟨o,cap,B',rfl,dH,h1,h2,h3,h4,hk⟩:=gD hr
      rw[hB]at dH;injection dH with dH;subst dH
      replace R:=R.row hk
      obtain⟨l1,l2⟩:=ra ph
      have hlen:rows.length=len:=by rw[l1];simp;omega
      by_cases h0:rows=[]
      ·subst h0
       simp at hlen;subst hlen
       exact both (.zP _ _ h4) rfl
      ·have hlp:0<len:=by rw[<-hlen];exact List.length_pos_iff.2 h0
       have ho:o=off*B.sz:=by rcases h2 with h2|h2<;>omega
       have src:∀i cs,rows[i]? =some cs->∃c0,row.rows[off+i]? =some c0/\dM g n c0=some cs:=fun i cs hi=>by
        obtain⟨c0,jF,hf⟩:=l2 i cs hi
        rw[List.getElem?_take]at jF
        split at jF
        ·rw[List.getElem?_drop]at jF;exact⟨c0,jF,hf⟩
        ·simp at jF
       have cell:∀i j,i<len->j<row.sz->∃c0 a0 v,row.rows[off+i]? =some c0/\c0[j]? =some a0/\w.cell? ⟨B.b,o+(i*row.sz+j),none⟩=some v/\cQ P w D ι a0 v:=fun i j hi hj=>by
        have mK:off+i<row.rows.length:=ad
        have e1:=List.getElem?_eq_getElem mK
        have Kt:j<row.rows[off+i].length:=by rw[R.len _ (List.getElem_mem mK)];exact hj
        obtain⟨v,hv,jV⟩:=R.at_ _ _ _ _ e1 (List.getElem?_eq_getElem Kt)
        refine⟨_,_,v,e1,List.getElem?_eq_getElem Kt,?_,jV⟩
        rw[ho,R.sz,<-hv]
        congr 2
        rw[Nat.add_mul];omega
       refine both (.sl rows B.b o len cap row.sz (fun i j=>(w.cell? ⟨B.b,o+(i*row.sz+j),none⟩).getD undef) hlen h1 h4 LH (fun cs dx=>?_) (fun cs dx b hb=>?_) (fun i j hi hj=>?_) (fun i j cs b hi hj=>?_)) rfl
       ·obtain⟨i,hi,rfl⟩:=List.getElem_of_mem dx
        obtain⟨c0,jF,hf⟩:=src i _ (List.getElem?_eq_getElem hi)
        rw[(hZ hf).1];exact R.len c0 (List.mem_of_getElem? jF)
       ·obtain⟨i,hi,rfl⟩:=List.getElem_of_mem dx
        obtain⟨c0,jF,hf⟩:=src i _ (List.getElem?_eq_getElem hi)
        obtain⟨j,hj,rfl⟩:=List.getElem_of_mem hb
        obtain⟨a0,kg,Gl⟩:=(hZ hf).2 j _ (List.getElem?_eq_getElem hj)
        obtain⟨v,_,jV⟩:=R.at_ _ _ _ _ jF kg
        exact((ih _ _ _ jV Gl).2 (R.flat c0 (List.mem_of_getElem? jF) a0 (List.mem_of_getElem? kg))).2
       ·obtain⟨c0,a0,v,_,_,hv,_⟩:=cell i j hi hj
        simp only[hv,Option.getD_some]
       ·obtain⟨c0,jF,hf⟩:=src i cs hi
        obtain⟨a0,kg,Gl⟩:=(hZ hf).2 j b hj
        have rQ:i<len:=by rw[<-hlen];exact(List.getElem?_eq_some_iff.1 hi).1
        have gJ:j<row.sz:=by rw[<-R.len c0 (List.mem_of_getElem? jF)];exact(List.getElem?_eq_some_iff.1 kg).1
        obtain⟨c1,a1,v,e1,e2,hv,jV⟩:=cell i j rQ gJ
        rw[jF]at e1;injection e1 with e1;subst e1
        rw[kg]at e2;injection e2 with e2;subst e2
        simp only[hv,Option.getD_some]
        exact((ih _ _ _ jV Gl).2 (R.flat c0 (List.mem_of_getElem? jF) a0 (List.mem_of_getElem? kg))).1
     ·simp at h
    ·simp at h
   ·simp at h
  |ptr id i off=>
   rw[fu]at h
   split at h
   ·rename_i row hg
    split at h
    ·rename_i hw
     split at h
     ·rename_i c0 jF
      simp only[Option.map_eq_some_iff]at h
      obtain⟨cs,dx,rfl⟩:=h
      obtain⟨B,hB,R,LH⟩:=vH id row hg hw
      obtain⟨B',rfl,dH,hk⟩:=iJ hr
      rw[hB]at dH;injection dH with dH;subst dH
      replace R:=R.row hk
      obtain⟨l1,l2⟩:=hZ dx
      have at_:∀j b,cs[j]? =some b->∃a0 v,w.cell? ⟨B.b,i*B.sz+off+j,none⟩=some v/\cQ P w D ι a0 v/\a0.cell=true/\fu g n a0=some b:=fun j b hj=>by
       obtain⟨a0,kg,hf⟩:=l2 j b hj
       rw[List.getElem?_drop]at kg
       obtain⟨v,hv,jV⟩:=R.at_ _ _ _ _ jF kg
       refine⟨a0,v,?_,jV,R.flat c0 (List.mem_of_getElem? jF) a0 (List.mem_of_getElem? kg),hf⟩
       rw[R.sz,Nat.add_assoc];exact hv
      refine both (.dI cs B.b _ (fun j=>(w.cell? ⟨B.b,i*B.sz+off+j,none⟩).getD undef) LH (fun b hb=>?_) (fun j hj=>?_) (fun j b hj=>?_)) rfl
      ·obtain⟨j,hj,rfl⟩:=List.getElem_of_mem hb
       obtain⟨a0,v,_,jV,hc,hf⟩:=at_ j _ (List.getElem?_eq_getElem hj)
       exact((ih _ _ _ jV hf).2 hc).2
      ·obtain⟨a0,v,hv,_⟩:=at_ j _ (List.getElem?_eq_getElem hj)
       simp only[hv,Option.getD_some]
      ·obtain⟨a0,v,hv,jV,hc,hf⟩:=at_ j b hj
       simp only[hv,Option.getD_some]
       exact((ih _ _ _ jV hf).2 hc).1
     ·simp at h
    ·simp at h
   ·simp at h
  |agg cs=>
   rw[fu]at h
   simp only[Option.map_eq_some_iff]at h
   obtain⟨r',lS,rfl⟩:=h
   obtain⟨vs,f,rfl,h1,h2,h3,h4⟩:=gV hr
   obtain⟨l1,l2⟩:=hZ lS
   have hI:jk P w D2 (.agg r') (.agg vs):=.agg r' vs f (by rw[h1,l1]) (fun b hb=>by
    obtain⟨j,hj,rfl⟩:=List.getElem_of_mem hb
    obtain⟨a0,kg,hf⟩:=l2 j _ (List.getElem?_eq_getElem hj)
    exact((ih _ _ _ (h4 j a0 kg) hf).2 (h2 a0 (List.mem_of_getElem? kg))).2) (fun j hj=>h3 j (by rw[<-l1];exact hj)) (fun j b hj=>by
    obtain⟨a0,kg,hf⟩:=l2 j b hj
    exact((ih _ _ _ (h4 j a0 kg) hf).2 (h2 a0 (List.mem_of_getElem? kg))).1)
   exact⟨.ez _ _ hI,fun hc=>by simp[AV.cell]at hc⟩
  |im cs=>
   rw[fu]at h
   simp only[Option.map_eq_some_iff]at h
   obtain⟨r',lS,rfl⟩:=h
   obtain⟨vs,f,rfl,h1,h3,h4⟩:=rV hr
   obtain⟨l1,l2⟩:=hZ lS
   exact⟨.im r' vs f (by rw[h1,l1]) (fun j hj=>h3 j (by rw[<-l1];exact hj)) (fun j b hj=>by
    obtain⟨a0,kg,hf⟩:=l2 j b hj
    exact(ih _ _ _ (h4 j a0 kg) hf).1),fun hc=>by simp[AV.cell]at hc⟩
  |fn f cP=>rw[fu]at h<;>(try simp at h)<;>(try(intros;simp_all))
  |int k m=>rw[fu]at h<;>(try simp at h)<;>(try subst h)<;>(try(rw[dz hr];exact⟨.ez _ _ (.int _ _),fun _=>⟨.int _ _,rfl⟩⟩))<;>(try(intros;simp_all))
  |bool b=>rw[fu]at h<;>(try simp at h)<;>(try subst h)<;>(try(rw[eG hr];exact⟨.ez _ _ (.bool _),fun _=>⟨.bool _,rfl⟩⟩))<;>(try(intros;simp_all))
  |str b=>rw[fu]at h<;>(try simp at h)<;>(try subst h)<;>(try(rw[eY hr];exact⟨.ez _ _ (.str _),fun _=>⟨.str _,rfl⟩⟩))<;>(try(intros;simp_all))
  |cK=>rw[fu]at h<;>(try simp at h)<;>(try subst h)<;>(try(rw[jq hr];exact⟨.ez _ _ .cK,fun _=>⟨.cK,rfl⟩⟩))<;>(try(intros;simp_all))
  |iH=>rw[fu]at h<;>(try simp at h)<;>(try subst h)<;>(try(rw[tb hr];exact⟨.ez _ _ .iH,fun _=>⟨.iH,rfl⟩⟩))<;>(try(intros;simp_all))
  |iQ=>rw[fu]at h<;>(try simp at h)<;>(try subst h)<;>(try(rw[zm hr];exact⟨.ez _ _ .iQ,fun _=>⟨.iQ,rfl⟩⟩))<;>(try(intros;simp_all))
  |tN f cP=>rw[fu]at h<;>(try simp at h)<;>(try(intros;simp_all))
  |iR=>rw[fu]at h<;>(try simp at h)<;>(try subst h)<;>(try(cases hr with|ez _ _ hr=>cases hr;exact both .iR rfl))<;>(try(intros;simp_all))
  |sl rows=>rw[fu]at h<;>(try simp at h)<;>(try(intros;simp_all))
  |dI cs=>rw[fu]at h<;>(try simp at h)<;>(try(intros;simp_all))
end
end Go.Proofs.YtphenfakmdknlaaGreat.V

namespace Go.Proofs.YtphenfakmdknlaaGreat.V
open Go.RowKit
variable {P:Program} {w w':World} {D D':Nat->Prop} {ι ι':Names}
section
variable {g:Rows} {hs:Nat} {env:Env} {a:Act} {o:Oper} {id:Id} {v:AV}
theorem fN.E6 (S:fN P hs D ι g w) {i:Id} {r r':Row} {B:qM} {ob:Obj} (hid:g i=some r) (hw:r.w=true) (hB:ι i=some B)
  (hR:(∀a v,cQ P w D ι a v->cQ P {w with heap:=w.heap.setIfInBounds B.b ob} D ι a v)->(w.heap.setIfInBounds B.b ob)[B.b]? =some ob->gL P {w with heap:=w.heap.setIfInBounds B.b ob} D ι B r'):
  fN P hs D ι (bC g i r') {w with heap:=w.heap.setIfInBounds B.b ob}/\Step hs D ι w D ι {w with heap:=w.heap.setIfInBounds B.b ob}:=by
 obtain⟨B0,tG,R,jH,kD⟩:=S.row i r hid
 rw[hB]at tG;injection tG with tG;subst tG
 have other:∀b,b≠B.b->(w.heap.setIfInBounds B.b ob)[b]? =w.heap[b]? :=fun b hb=>by simp[Ne.symm hb]
 have hd:∀b,D b->(w.heap.setIfInBounds B.b ob)[b]? =w.heap[b]? :=fun b hb=>other b (by rintro rfl;exact kD hw hb)
 have hr:∀a v,cQ P w D ι a v->cQ P {w with heap:=w.heap.setIfInBounds B.b ob} D ι a v:=fun a v h=>h.frame hd (fun _ h=>h) (fun _ _ h=>h)
 refine⟨⟨by simpa using S.lo,fun b hb=>by simpa using S.dead b hb,fun j q h=>?_,fun j j' q q' C C' h h' O4 hC AL he=>?_⟩,⟨⟨rfl,rfl,rfl,by simp,fun k hk=>other k (by have:=jH hw;omega)⟩,hd,fun _ h=>h,fun _ _ h=>h,fun _ h=>.inl h⟩⟩
 ·unfold bC at h
  split at h
  ·rename_i e
   subst e
   injection h with h;subst h
   exact⟨B,hB,hR hr (by simp[R.lt]),fun _=>jH hw,fun _=>kD hw⟩
  ·rename_i e
   obtain⟨C,hC,RC,k1,k2⟩:=S.row j q h
   refine⟨C,hC,RC.frame (other C.b (fun Kj=>e ?_)) hr,k1,k2⟩
   exact(S.inj i j r q B C hid h hw hB hC Kj.symm).symm
 ·unfold bC at h h'
  have get:∀j p,(if j=i then some r' else g j)=some p->∃p0,g j=some p0/\(p.w=true->p0.w=true):=fun j p hp=>by
   split at hp
   ·rename_i e;subst e;injection hp with hp;subst hp;exact⟨r,hid,fun _=>hw⟩
   ·exact⟨p,hp,fun h=>h⟩
  obtain⟨p,hp,Nz⟩:=get _ _ h
  obtain⟨p',L1,_⟩:=get _ _ h'
  exact S.inj j j' p p' C C' hp L1 (Nz O4) hC AL he
theorem Cj {s:TS} {x y:AV} {u v:Value} (he:eO s x y=some true) (hx:cQ P w D ι x u) (hy:cQ P w D ι y v):u=v/\∀n,Instr.sameBits n u v=true:=by
 unfold eO at he
 split at he
 ·split at he
  ·rename_i hk
   subst hk
   simp at he;subst he
   rw[dz hx,dz hy]
   exact⟨rfl,fun n=>by cases n<;>simp[Instr.sameBits]⟩
  ·cases he
 ·simp at he;subst he
  rw[eG hx,eG hy]
  exact⟨rfl,fun n=>by cases n<;>simp[Instr.sameBits]⟩
 ·simp at he;subst he
  rw[eY hx,eY hy]
  exact⟨rfl,fun n=>by cases n<;>simp[Instr.sameBits,FE]⟩
 ·cases he
theorem x8 {n:Nat}:∀{ts:List TS} {xs ys:List AV} {vs us:List Value},er ts xs ys=some true->vs.length=xs.length->us.length=ys.length->(∀(j:Nat) (a:AV),xs[j]? =some a->∃u,vs[j]? =some u/\cQ P w D ι a u)->(∀(j:Nat) (a:AV),ys[j]? =some a->∃u,us[j]? =some u/\cQ P w D ι a u)->
  us.length=vs.length/\(us.zip vs).all (fun p=>Instr.sameBits n p.1 p.2)=true
 |[],[],[],vs,us,_,h1,h2,_,_=>by
  cases vs<;>cases us<;>simp_all
 |[],x::xs,ys,vs,us,h,_,_,_,_=>by simp[er]at h
 |[],[],y::ys,vs,us,h,_,_,_,_=>by simp[er]at h
 |t::ts,[],ys,vs,us,h,_,_,_,_=>by simp[er]at h
 |t::ts,x::xs,[],vs,us,h,_,_,_,_=>by simp[er]at h
 |t::ts,x::xs,y::ys,[],us,h,h1,_,_,_=>by simp at h1
 |t::ts,x::xs,y::ys,v::vs,[],h,_,h2,_,_=>by simp at h2
 |t::ts,x::xs,y::ys,v::vs,u::us,h,h1,h2,hx,hy=>by
  unfold er at h
  split at h
  ·rename_i a b ha hb
   simp only[Option.some.injEq,Bool.and_eq_true]at h
   obtain⟨rfl,rfl⟩:=h
   obtain⟨v',lU,rv⟩:=hx 0 x rfl
   obtain⟨u',CE,ru⟩:=hy 0 y rfl
   simp at lU CE;subst lU;subst CE
   obtain⟨e1,e2⟩:=Cj ha rv ru
   obtain⟨q1,q2⟩:=x8 (n:=n) hb (by simpa using h1) (by simpa using h2) (fun j a hj=>by simpa using hx (j+1) a (by simpa using hj)) (fun j a hj=>by simpa using hy (j+1) a (by simpa using hj))
   refine⟨by simp[q1],?_⟩
   simp only[List.zip_cons_cons,List.all_cons,q2,Bool.and_true]
   rw[<-e1]
   have:=e2 n
   rw[<-e1]at this
   exact this
  ·cases h
theorem za {m:MK} {key:List AV}:∀{rows:List (List AV)} {i j:Nat},jY m key rows i=some (some j)->∃cs,i<=j/\rows[j-i]? =some cs/\er m.ts key (cs.take m.ks)=some true
 |[],i,j,h=>by simp[jY]at h
 |cs::rows,i,j,h=>by
  unfold jY at h
  split at h
  ·rename_i hq
   simp at h;subst h
   exact⟨cs,Nat.le_refl _,by simp,hq⟩
  ·obtain⟨c,h1,h2,h3⟩:=za h
   exact⟨c,ad,by rw[show j-i=(j-(i+1))+1 by omega];simpa using h2,h3⟩
  ·cases h
theorem sW {m:MK} {k:AV} {rows:List (List AV)} {fi:Option Nat} (h:jZ m k rows=some fi):k.isAgg=m.ka/\k.cells.length=m.ks/\(k.cells.all AV.cell=true)/\jY m k.cells rows 0=some fi:=by
 unfold jZ at h
 split at h
 ·rename_i hc;exact⟨hc.1,hc.2.1,hc.2.2,h⟩
 ·cases h
theorem Hf {m:MK} {k y:AV} (h1:k.isAgg=m.ka) (h2:k.cells.length=m.ks):part m.ka m.ks (k.cells++[y])=some k/\(k.cells++[y])[m.ks]? =some y:=by
 refine⟨?_,by rw[List.getElem?_append_right ad,h2,Nat.sub_self];rfl⟩
 cases hk:m.ka with
 |false=>
  rw[hk]at h1
  rw[so h1];rfl
 |true=>
  rw[hk]at h1
  cases k<;>simp[AV.isAgg]at h1
  rename_i cs
  simp only[AV.cells]at h2 ⊢
  simp only[part,if_true]
  rw[if_pos (by simp;omega),<-h2,List.take_left']
  rfl
theorem stays {k:TypeId} {m:MK} (hK:B3 P k m) {key kv:AV} {u zg:Value} {cs:List AV} (h1:key.isAgg=m.ka) (hr:cQ P w D ι key u) (hp:part m.ka m.ks cs=some kv) (ho:cQ P w D ι kv zg) (he:er m.ts key.cells (cs.take m.ks)=some true):(Instr.keyThatStays zg u).run P w=.ok u w:=by
 have hs:Instr.sameBits 10000 zg u=true:=by
  rcases hK with⟨s,rfl,hs⟩|⟨fs,ts,rfl,pf,tZ,ee,dy⟩
  ·rw[so h1]at he
   cases cs with
   |nil=>simp[part]at hp
   |cons c l=>
    simp[part]at hp;subst hp
    simp only[MK.ks,List.length_cons,List.length_nil,Nat.zero_add,List.take_succ_cons,List.take_zero,er]at he
    cases hq:eO s key c with
    |none=>rw[hq]at he;simp at he
    |some b=>
     rw[hq]at he;simp at he;subst he
     obtain⟨e1,e2⟩:=Cj hq hr ho
     rw[<-e1]
     have:=e2 10000
     rwa [<-e1]at this
  ·cases key<;>simp[AV.isAgg]at h1
   rename_i ks
   simp only[part,if_true]at hp
   split at hp
   ·simp only[Option.some.injEq]at hp;subst hp
    obtain⟨vs,rfl,n1,r1⟩:=pK hr
    obtain⟨us,rfl,n2,r2⟩:=pK ho
    obtain⟨q1,q2⟩:=x8 (n:=9999) (vs:=vs.toList) (us:=us.toList) he (by simpa[AV.cells]using n1) (by simpa using n2) (fun j a hj=>by simpa using r1 j a hj) (fun j a hj=>by simpa using r2 j a hj)
    simp only[Instr.sameBits,Bool.and_eq_true,beq_iff_eq]
    exact⟨by simpa using q1,q2⟩
   ·cases hp
 simp[Instr.keyThatStays,hs]
theorem Hu {es:Array MapEntry} {clock:Nat} (h:K6 es clock) (k v:Value):K6 (es.push ⟨k,v,clock⟩) (clock+1):=by
 refine⟨fun x hx=>?_,?_⟩
 ·simp only[Array.toList_push,List.mem_append,List.mem_singleton]at hx
  rcases hx with hx|rfl
  ·have:=h.1 x hx;omega
  ·exact Nat.lt_succ_self _
 ·simp only[Array.toList_push,List.map_append,List.map_cons,List.map_nil]
  refine List.nodup_append.2 ⟨h.2,by simp,fun a ha b hb=>?_⟩
  obtain⟨x,hx,rfl⟩:=List.mem_map.1 ha
  simp at hb;subst hb
  have:=h.1 x hx;omega
theorem BN {es:Array MapEntry} {clock:Nat} (h:K6 es clock) (j:Nat) (k v:Value):K6 (es.modify j fun e=>{e with key:=k,val:=v}) clock:=by
 have e:(es.modify j fun e=>{e with key:=k,val:=v}).toList.map (·.born)=es.toList.map (·.born):=by
  refine List.ext_getElem? fun i=>?_
  simp only[List.getElem?_map,Array.getElem?_toList,Array.getElem?_modify]
  split
  ·cases es[i]? <;>rfl
  ·rfl
 refine⟨fun x hx=>?_,by rw[e];exact h.2⟩
 have hb:x.born∈(es.modify j fun e=>{e with key:=k,val:=v}).toList.map (·.born):=List.mem_map_of_mem hx
 rw[e]at hb
 obtain⟨y,hy,hyb⟩:=List.mem_map.1 hb
 rw[<-hyb];exact h.1 y hy
theorem ET {es:Array MapEntry} {clock:Nat} (h:K6 es clock) {j:Nat} (hj:j<es.size):K6 (es.eraseIdxIfInBounds j) clock:=by
 have e:(es.eraseIdxIfInBounds j).toList=es.toList.eraseIdx j:=by
  unfold Array.eraseIdxIfInBounds
  rw[dif_pos hj,Array.toList_eraseIdx]
 refine⟨fun x hx=>h.1 x ((List.eraseIdx_sublist _ _).subset (by rwa [e]at hx)),?_⟩
 rw[e]
 exact((List.eraseIdx_sublist es.toList j).map (·.born)).nodup h.2
theorem yi {k y:AV} (h1:k.cells.all AV.cell=true) (h2:y.cell=true):∀a∈k.cells++[y],a.cell=true:=fun a ha=>by
 rcases List.mem_append.1 ha with ha|ha
 ·exact List.all_eq_true.1 h1 a ha
 ·rw[List.mem_singleton.1 ha];exact h2
theorem Ln {t:TypeId} {x k y:Operand} {m:MK} {z:K} {x' k' y':O} {g':Rows} (S:fN P hs D ι g w) (E:cF P w D ι env a) (ho:o.op=.mapUpdate t x k y∨o.op=.insert t x k y) (hc:qh P t=some (m,z)) (hx:cO P x=some x') (hk:cO P k=some k') (hy:cO P y=some y')
  (hv:bc (.set m) [cJ env x',cJ env k',cJ env y'] g=some g'):zS P hs a o w D ι id .undef g':=by
 obtain⟨kt,e,i,zv,ht,hi,sL,Ql,hK⟩:=o5 hc
 simp only[bc,Option.bind_eq_some_iff]at hv
 obtain⟨p,hp,fi,Kl,hv⟩:=hv
 split at hv
 ·rename_i hcond
  obtain⟨hw,hyc,_⟩:=hcond
  simp only[Option.some.injEq]at hv;subst hv
  obtain⟨B,hu,hg,hB,rO,es,clock,hb,eU,hlen,hM⟩:=wI S (cX E hx) hp
  have rk:=cX E hk
  have ry:=cX E hy
  obtain⟨HZ,res,hf,hF⟩:=sw (B:=B) hK rk eU hM Kl
  obtain⟨k1,k2,k3,k4⟩:=sW Kl
  obtain⟨B',dH,R,_⟩:=S.row p.1 p.2 hg
  rw[hB]at dH;injection dH with dH;subst dH
  obtain⟨pk1,pk2⟩:=Hf (y:=cJ env y') k1 k2
  have ev:(getObj B.b).run P w=.ok (.map es clock) w:=MapKept.run_getObj_map hb
  rcases hF with⟨rfl,rfl⟩|⟨j,en,rfl,he,rfl⟩
  ·have lZ:=S.E6 (ob:=.map (es.push ⟨a.eval k,a.eval y,clock⟩) (clock+1)) (r':={p.2 with rows:=cY p.2.rows ((cJ env k').cells++[cJ env y']) none}) hg hw hB fun hr jI=>⟨R.sz,fun cs dx=>?_,fun tJ=>(by rw[rO]at tJ;cases tJ),fun m' yC=>?_,fun c hc=>(by rw[rO]at hc;cases hc)⟩
   ·refine⟨undef,_,ι,.inr ⟨?_,rfl⟩,lZ.2,lZ.1,cQ.undef,fun _ _=>rfl⟩
    rcases ho with ho|ho<;>
    ·simp only[execOp,ho,Instr.mapUpdate,hu,Sem.run_bind,run_underlying ht,Result.andThen_ok,ev,HZ,hf,MapKept.run_setObj_map _ hb,Sem.run_pure]
   ·rcases List.mem_append.1 dx with h|h
    ·exact R.flat cs h
    ·rw[List.mem_singleton.1 h];exact yi k3 hyc
   ·rw[rO]at yC;simp only[Option.some.injEq,BK.map.injEq]at yC;subst yC
    refine⟨(R.map m rO).1,_,_,jI,by simp[cY,eU],⟨fun cs dx=>?_,Hu hlen.2 _ _⟩,fun q cs hq=>?_⟩
    ·rcases List.mem_append.1 dx with h|h
     ·exact hlen.1 cs h
     ·rw[List.mem_singleton.1 h];simp[k2]
    ·rcases Nat.lt_or_ge q p.2.rows.length with ea|nR
     ·simp only[cY]at hq
      rw[List.getElem?_append_left ea]at hq
      obtain⟨en,kv,vv,q1,q2,q3,q4,q5⟩:=hM q cs hq
      exact⟨en,kv,vv,by rw[Array.getElem?_push_lt ad];rw[Array.getElem?_eq_getElem ad]at q1;simpa using q1,q2,q3,hr _ _ q4,hr _ _ q5⟩
     ·simp only[cY]at hq
      rw[List.getElem?_append_right nR]at hq
      have hq0:q=p.2.rows.length:=by
       have:=(List.getElem?_eq_some_iff.1 hq).1
       simp at this;omega
      subst hq0
      simp at hq;subst hq
      exact⟨⟨a.eval k,a.eval y,clock⟩,_,_,by rw[<-eU];simp,pk1,pk2,hr _ _ rk,hr _ _ ry⟩
  ·simp only[Nat.zero_add]at k4 Kl hf ⊢
   obtain⟨Nk,_,IJ,heq⟩:=za k4
   simp only[Nat.sub_zero]at IJ
   obtain⟨QS,kv,vv,q1,q2,_,q4,_⟩:=hM j Nk IJ
   have H0:QS=en:=by
    have h1:es.toList[j]? =some QS:=by simpa using q1
    rw[he]at h1;injection h1 with h1;exact h1.symm
   subst H0
   have ee:=stays (w:=w) hK k1 rk q2 q4 heq
   have lZ:=S.E6 (ob:=.map (es.modify j fun e=>{e with key:=a.eval k,val:=a.eval y}) clock) (r':={p.2 with rows:=cY p.2.rows ((cJ env k').cells++[cJ env y']) (some j)}) hg hw hB fun hr jI=>⟨R.sz,fun cs dx=>?_,fun tJ=>(by rw[rO]at tJ;cases tJ),fun m' yC=>?_,fun c hc=>(by rw[rO]at hc;cases hc)⟩
   ·refine⟨undef,_,ι,.inr ⟨?_,rfl⟩,lZ.2,lZ.1,cQ.undef,fun _ _=>rfl⟩
    rcases ho with ho|ho<;>
    ·simp only[execOp,ho,Instr.mapUpdate,hu,Sem.run_bind,run_underlying ht,Result.andThen_ok,ev,HZ,hf,q1,Option.map_some,Option.getD_some,ee,MapKept.run_setObj_map _ hb,Sem.run_pure]
   ·rcases List.mem_or_eq_of_mem_set dx with h|h
    ·exact R.flat cs h
    ·rw[h];exact yi k3 hyc
   ·rw[rO]at yC;simp only[Option.some.injEq,BK.map.injEq]at yC;subst yC
    have gJ:=(List.getElem?_eq_some_iff.1 IJ).1
    refine⟨(R.map m rO).1,_,_,jI,by simp[cY,eU],⟨fun cs dx=>?_,BN hlen.2 _ _ _⟩,fun q cs hq=>?_⟩
    ·rcases List.mem_or_eq_of_mem_set dx with h|h
     ·exact hlen.1 cs h
     ·rw[h];simp[k2]
    ·simp only[cY,List.getElem?_set]at hq
     split at hq
     ·rename_i Nw
      subst Nw
      (try rw[if_pos gJ]at hq)
      injection hq with hq;subst hq
      exact⟨{QS with key:=a.eval k,val:=a.eval y},_,_,by rw[Array.getElem?_modify];simp[q1],pk1,pk2,hr _ _ rk,hr _ _ ry⟩
     ·rename_i Nw
      obtain⟨en,kv,vv,q1,q2,q3,q4,q5⟩:=hM q cs hq
      exact⟨en,kv,vv,by rw[Array.getElem?_modify];simp[Nw,q1],q2,q3,hr _ _ q4,hr _ _ q5⟩
 ·cases hv
theorem Lm {t t':TypeId} {x k:Operand} {m:MK} {z:K} {x' k':O} {g':Rows} (S:fN P hs D ι g w) (E:cF P w D ι env a) (ho:o.op=.call {callee:=.builtin .delete,args:= #[x,k],argTypes:= #[t,t']}) (hc:qh P t=some (m,z)) (hx:cO P x=some x') (hk:cO P k=some k')
  (hv:bc (.del m) [cJ env x',cJ env k'] g=some g'):zS P hs a o w D ι id .undef g':=by
 obtain⟨kt,e,i,zv,ht,hi,sL,Ql,hK⟩:=o5 hc
 simp only[bc,Option.bind_eq_some_iff]at hv
 obtain⟨p,hp,fi,Kl,hv⟩:=hv
 split at hv
 ·rename_i hw
  simp only[Option.some.injEq]at hv;subst hv
  obtain⟨B,hu,hg,hB,rO,es,clock,hb,eU,hlen,hM⟩:=wI S (cX E hx) hp
  have rk:=cX E hk
  obtain⟨HZ,res,hf,hF⟩:=sw (B:=B) hK rk eU hM Kl
  obtain⟨k1,k2,k3,k4⟩:=sW Kl
  obtain⟨B',dH,R,_⟩:=S.row p.1 p.2 hg
  rw[hB]at dH;injection dH with dH;subst dH
  have ev:(getObj B.b).run P w=.ok (.map es clock) w:=MapKept.run_getObj_map hb
  have go:∀ob,(Builtin.delete_ #[t,t'] o.type #[a.eval x,a.eval k]).run P w=.ok (.tuple #[]) {w with heap:=w.heap.setIfInBounds B.b ob}->(execOp a.eval o).run P w=.ok (.value undef) {w with heap:=w.heap.setIfInBounds B.b ob}:=fun ob h=>by
   simp only[execOp,ho,resolve,Sem.run_bind,Sem.run_pure,Result.andThen_ok,invoke,builtin,Array.map]
   simp[h,undef]
  rcases hF with⟨rfl,rfl⟩|⟨j,en,rfl,he,rfl⟩
  ·have lZ:=S.E6 (ob:=.map es clock) (r':={p.2 with rows:=dc p.2.rows none}) hg hw hB fun hr jI=>⟨R.sz,R.flat,fun tJ=>(by rw[rO]at tJ;cases tJ),fun m' yC=>?_,fun c hc=>(by rw[rO]at hc;cases hc)⟩
   ·refine⟨undef,_,ι,.inl (go _ ?_),lZ.2,lZ.1,cQ.undef,fun _ _=>rfl⟩
    simp[Builtin.delete_,hu,run_underlying ht,ev,HZ,hf,MapKept.run_setObj_map _ hb]
   ·rw[rO]at yC;simp only[Option.some.injEq,BK.map.injEq]at yC;subst yC
    exact⟨(R.map m rO).1,_,_,jI,eU,hlen,fun q cs hq=>by
     obtain⟨en,kv,vv,q1,q2,q3,q4,q5⟩:=hM q cs hq
     exact⟨en,kv,vv,q1,q2,q3,hr _ _ q4,hr _ _ q5⟩⟩
  ·simp only[Nat.zero_add]at hf ⊢
   have gJ:j<es.size:=by have:=(List.getElem?_eq_some_iff.1 he).1;simpa using this
   have lZ:=S.E6 (ob:=.map (es.eraseIdxIfInBounds j) clock) (r':={p.2 with rows:=dc p.2.rows (some j)}) hg hw hB fun hr jI=>⟨R.sz,fun cs dx=>R.flat cs (List.mem_of_mem_eraseIdx dx),fun tJ=>(by rw[rO]at tJ;cases tJ),fun m' yC=>?_,fun c hc=>(by rw[rO]at hc;cases hc)⟩
   ·refine⟨undef,_,ι,.inl (go _ ?_),lZ.2,lZ.1,cQ.undef,fun _ _=>rfl⟩
    simp[Builtin.delete_,hu,run_underlying ht,ev,HZ,hf,MapKept.run_setObj_map _ hb]
   ·rw[rO]at yC;simp only[Option.some.injEq,BK.map.injEq]at yC;subst yC
    have he2:∀q,(es.eraseIdxIfInBounds j)[q]? =(es.toList.eraseIdx j)[q]? :=fun q=>by
     unfold Array.eraseIdxIfInBounds
     rw[dif_pos gJ,<-Array.getElem?_toList,Array.toList_eraseIdx]
    refine⟨(R.map m rO).1,_,_,jI,by simp[dc,Array.eraseIdxIfInBounds,gJ,List.length_eraseIdx,<-eU],⟨fun cs dx=>hlen.1 cs (List.mem_of_mem_eraseIdx dx),ET hlen.2 gJ⟩,fun q cs hq=>?_⟩
    simp only[dc,List.getElem?_eraseIdx]at hq
    split at hq
    ·rename_i ea
     obtain⟨en,kv,vv,q1,q2,q3,q4,q5⟩:=hM q cs hq
     exact⟨en,kv,vv,by rw[he2,List.getElem?_eraseIdx,if_pos ea];simpa using q1,q2,q3,hr _ _ q4,hr _ _ q5⟩
    ·rename_i ea
     obtain⟨en,kv,vv,q1,q2,q3,q4,q5⟩:=hM (q+1) cs hq
     exact⟨en,kv,vv,by rw[he2,List.getElem?_eraseIdx,if_neg ea];simpa using q1,q2,q3,hr _ _ q4,hr _ _ q5⟩
 ·cases hv
end
end Go.Proofs.YtphenfakmdknlaaGreat.V
