/- A small language in which the program's functions are read by value: its values, its operations, its code, and how the program's code is brought into it. -/
import Derived.WalkKit
import Derived.WalkSpells
import Derived.WalkLawsBesides
import Derived.Lib.Hide
import Derived.Great.BuildSlice
import Derived.Conc.LoneCalls
import Derived.MapKept
import Derived.WideKeyRuns
set_option linter.unusedVariables false
set_option linter.unusedSimpArgs false
set_option maxRecDepth 100000
set_option maxHeartbeats 16000000
namespace Go.Proofs.YtkbipfflibjfbaaGreat.V
open Go.RowKit
structure Id where
  site:Nat
  cC:Nat
  deriving DecidableEq,Repr
inductive TS where
  |tI|tB|tS
  deriving Repr,DecidableEq
structure MK where
  ka:Bool
  ts:List TS
  deriving Repr,DecidableEq
inductive AV where
  |int (k:IntKind) (n:Int)
  |bool (b:Bool)
  |str (s:ByteArray)
  |ck|iI|jX
  |sl (rows:List (List AV))
  |own (id:Id) (off len:Nat)
  |ptr (id:Id) (i off:Nat)
  |dq (cs:List AV)
  |agg (cs:List AV)
  |iJ (vs:List AV)
  |fn (f:Nat) (dp:List AV)
  |map (id:Id) (m:MK)
  |j9
  |xJ (f:Nat) (first:List AV)
  |s8 (id:Id)
  deriving Inhabited
def AV.undef:AV:=.iJ []
def AV.cell:AV->Bool
  | .agg _| .iJ _=>false
  |_=>true
def AV.cells:AV->List AV
  | .agg cs=>cs
  |v=>[v]
inductive K where
  |int (k:IntKind) (n:Int)
  |bool (b:Bool)
  |str (l:List UInt8)
  |ck|iI|jX|j9
  deriving Repr,DecidableEq
def K.val:K->Value
  | .int k n=>.int k n
  | .bool b=>.bool b
  | .str l=>.string ⟨l.toArray⟩
  | .ck=>.slice none 0 0
  | .iI=>.pointer none
  | .jX=>.nilFunc
  | .j9=>.map none
def K.av:K->AV
  | .int k n=>.int k n
  | .bool b=>.bool b
  | .str l=>.str ⟨l.toArray⟩
  | .ck=>.ck
  | .iI=>.iI
  | .jX=>.jX
  | .j9=>.j9
def Hm:Value->Option K
  | .int k n=>some (.int k n)
  | .bool b=>some (.bool b)
  | .string s=>some (.str s.data.toList)
  | .slice none 0 0=>some .ck
  | .pointer none=>some .iI
  | .nilFunc=>some .jX
  | .map none=>some .j9
  |_=>none
inductive O where
  |t (n:Nat)
  |k (c:K)
  |ka (cs:List K)
  |f (n:Nat)
  deriving Repr,DecidableEq
inductive MQ where
  |new (m:MK)
  |look (m:MK) (ok:Bool) (zero:K)
  |len (m:MK)
  deriving Repr,DecidableEq
inductive MW where
  |set (m:MK)
  |del (m:MK)
  deriving Repr,DecidableEq
inductive gL where
  |du (x:O)
  |pick (c a b:O)
  |new (zero:List K)
  |box (x:O)
  |build (zero:List K) (parts:List (Nat×Nat×O))
  |nK (sz len:Nat) (parts:List O)
  |load (agg:Bool) (n:Nat) (a:O)
  |store (n:Nat) (a x:O)
  |BM (x:O)
  |bin (op:BinOp) (k:IntKind) (x y:O)
  |sh (left:Bool) (x y:O)
  |L7 (op:BinOp) (x y:O)
  |NS (neg:Bool) (t:TS) (x y:O)
  |TW (neg:Bool) (ts:List TS) (x y:O)
  |RY (neg MO:Bool) (x:O)
  |TX (neg:Bool) (x:O)
  |not (x:O)
  |neg (x:O)
  |conv (k:IntKind) (x:O)
  |FI (x:O)
  |slice (sz:Nat) (x:O) (lo hi:Option O)
  |AR (x:O) (lo hi:Option O)
  |fu (off:Nat) (x:O)
  |field (agg:Bool) (off n:Nat) (x:O)
  |dE (sz:Nat) (x i:O)
  |JS (len sz:Nat) (x i:O)
  |ML (x i:O)
  |fD (agg:Bool) (len n:Nat) (x i:O)
  |extract (i:Nat) (x:O)
  |len (x:O)
  |MT (x:O)
  |append (sz:Nat) (x y:O)
  |copy (sz:Nat) (x y:O)
  |clear (zero:List K) (x:O)
  |MZ (f:Nat) (dp:List O)
  |M0 (f:Nat) (first:List O)
  |kC (zero:List K) (len cap:O)
  |call (f:Nat) (args:List O)
  |tV (x:O) (args:List O)
  |mq (q:MQ) (xs:List O)
  |mw (q:MW) (xs:List O)
  |Kc (x:O)
  |J1 (x:O)
  |snd (x y:O)
  |Ql (x:O)
  |bad
  deriving Repr,DecidableEq
structure bh where
  dst:Option Nat
  op:gL
  guard:Option (Nat×Bool)
  site:Nat
  hid:List Nat
  deriving Repr,DecidableEq
def q (d:Nat) (op:gL) (s:Nat):bh:=⟨some d,op,none,s,[]⟩
inductive VC where
  |skip
  |eS (draw:Bool) (ops:List bh)
  |seq (a b:VC)
  |cond (c:O) (x y:VC)
  |block (id:Nat) (c:VC)
  |loop (c:VC)
  |exit (id:Nat)
  |ret
  |one (o:bh) (c:VC)
  |both (a b:VC)
  |loc (t s:Nat) (y:O) (c:VC)
  |O3 (ops:List bh)
  deriving Repr,DecidableEq
inductive qg where
  |tmp (t:Nat)
  |cell (agg:Bool) (n:Nat) (t:Nat)
  deriving Repr,DecidableEq
structure A9 where
  ntmps:Nat
  zk:Nat
  body:VC
  res:List qg
  deriving Repr,DecidableEq
def fY (P:Program) (f:Nat):Bool:=
  match P.funcs[f]? with
  |some fn=>fn.body.isSome&& !(fn.name== "runtime.NumGoroutine")
  |none=>false
def cO (P:Program):Operand->Option O
  | .tmp t=>some (.t t)
  | .const (.agg cs)=>(cs.toList.mapM Hm).map O.ka
  | .const v=>(Hm v).map O.k
  | .global _=>none
  | .func f=>if fY P f then some (.f f)else none
def kd (P:Program) (t:TypeId):Option (List K):=
  match P.info? t with
  |some i=>match i.zero with
    |some v=>if v.cells.size=i.size then v.cells.toList.mapM Hm else none
    |none=>none
  |none=>none
def eG (P:Program) (t:TypeId):Option Nat:=(P.info? t).map (·.size)
def oG (P:Program) (t:TypeId):Option Bool:=
  match P.underlying t with
  |some (.struct _)|some (.array _ _)=>some true
  |some _=>some false
  |none=>none
inductive UJ where
  |sc (t:TS)|ag (ts:List TS)
  deriving Repr,DecidableEq
def fF (P:Program) (t:TypeId):Option TS:=
  match P.underlying t with
  |some .bool=>some .tB
  |some (.int _)=>some .tI
  |some .string=>some .tS
  |_=>none
def Ec (P:Program) (inner:List Field->Option (List TS)):Nat->List Field->Option (List TS)
  |_,[]=>some []
  |off,f::r=>
    if f.offset=off/\f.name≠ "_" then
      match fF P f.type with
      |some t=>if oG P f.type=some false then(Ec P inner (off+1) r).map (t::·)else none
      |none=>match P.underlying f.type with
        |some (.struct fs)=>if !P.stoodInHeld f.type then match inner fs.toList with
          |some ts=>if eG P f.type=some ts.length/\ts≠[]then(Ec P inner (off+ts.length) r).map (ts++·)else none
          |none=>none else none
        |_=>none
    else none
def eU (P:Program):Nat->Nat->List Field->Option (List TS)
  |0,_,[]=>some []
  |0,_,_::_=>none
  |d+1,off,fs=>Ec P (eU P d 0) off fs
def UW (P:Program) (t:TypeId):Option UJ:=
  match fF P t with
  |some s=>some (.sc s)
  |none=>match P.underlying t with
    |some (.struct fs)=>if !P.stoodInHeld t&& !P.eqGuardType P.depth t then(eU P 4 0 fs.toList).map UJ.ag else none
    |_=>none
def sY (P:Program) (fs:Array Field):List (Nat×O)->Option (List (Nat×Nat×O))
  |[]=>some []
  |(i,x)::r=>match fs[i]? with
    |some f=>match eG P f.type with
      |some n=>(sY P fs r).map ((f.offset,n,x)::·)
      |none=>none
    |none=>none
def s5 (P:Program) (ps:Array (Nat×Operand)):Option (List (Nat×O)):=ps.toList.mapM fun(i,x)=>(cO P x).map (i,·)
def rU (P:Program):Option Operand->Option (Option O)
  |none=>some none
  |some x=>(cO P x).map some
def sZ (P:Program) (neg:Bool) (t:TypeId) (x y:Operand):Option gL:=
  match y with
  | .const (.slice none 0 0)=>match P.underlying t with
    |some (.slice _)=>(cO P x).map (gL.RY neg false)
    |_=>none
  | .const .nilFunc=>match P.underlying t with
    |some (.func ..)=>(cO P x).map (gL.RY neg true)
    |_=>none
  | .const (.pointer none)=>match P.underlying t with
    |some (.pointer _)=>(cO P x).map (gL.TX neg)
    |_=>none
  |_=>match UW P t with
    |some (.sc s)=>do pure (.NS neg s (<-cO P x) (<-cO P y))
    |some (.ag ts)=>do pure (.TW neg ts (<-cO P x) (<-cO P y))
    |_=>none
def vN (P:Program) (op:BinOp) (t:TypeId) (x y:Operand):Option gL:=
  match op with
  | .eql=>sZ P false t x y
  | .neq=>sZ P true t x y
  | .shl=>do pure (.sh true (<-cO P x) (<-cO P y))
  | .shr=>do pure (.sh false (<-cO P x) (<-cO P y))
  |op=>match P.underlying t with
    |some (.int k)=>do pure (.bin op k (<-cO P x) (<-cO P y))
    |some .string=>do pure (.L7 op (<-cO P x) (<-cO P y))
    |_=>none
def s4 (P:Program) (t:TypeId):Option (MK×K):=
  match P.underlying t with
  |some (.map k e)=>match oG P e,(P.info? e).bind (·.zero),fF P k,P.underlying k with
    |some false,some zv,some s,_=>(Hm zv).map fun z=>(⟨false,[s]⟩,z)
    |some false,some zv,none,some (.struct fs)=>match eU P 4 0 fs.toList,Hm zv with
      |some ts,some z=>if !P.stoodInHeld k/\fs.toList.all (fun f=>(fF P f.type).isSome)then some (⟨true,ts⟩,z)else none
      |_,_=>none
    |_,_,_,_=>none
  |_=>none
def ou (P:Program) (c:Call):Option gL:=
  match c.callee with
  | .builtin .len=>match c.args.toList,c.argTypes.toList with
    |[x],[t]=>match P.underlying t with
      |some (.slice _)=>(cO P x).map gL.len
      |some .string=>(cO P x).map gL.MT
      |some (.map _ _)=>match s4 P t,cO P x with
        |some (m,_),some x=>some (.mq (.len m) [x])
        |_,_=>none
      |some (.chan _ _)=>(cO P x).map gL.J1
      |_=>none
    |_,_=>none
  | .builtin .append=>match c.args.toList,c.argTypes.toList with
    |[x,y],[t,u]=>match P.underlying t with
      |some (.slice e)=>match eG P e,kd P e,P.info? e with
        |some (sz+1),some _,some i=>if i.bytes<=32768/\t=u then do pure (.append (sz+1) (<-cO P x) (<-cO P y))else none
        |_,_,_=>none
      |_=>none
    |_,_=>none
  | .builtin .clear=>match c.args.toList,c.argTypes.toList with
    |[x],[t]=>match P.underlying t with
      |some (.slice e)=>match eG P e,kd P e with
        |some (_+1),some z=>(cO P x).map (gL.clear z)
        |_,_=>none
      |_=>none
    |_,_=>none
  | .value (.func f)=>if fY P f then(c.args.toList.mapM (cO P)).map (gL.call f)else none
  | .value (.tmp t)=>(c.args.toList.mapM (cO P)).map (gL.tV (.t t))
  | .builtin .delete=>match c.args.toList,c.argTypes.toList with
    |[x,k],[t,_]=>match s4 P t,cO P x,cO P k with
      |some (m,_),some x,some k=>some (.mw (.del m) [x,k])
      |_,_,_=>none
    |_,_=>none
  | .builtin .copy=>match c.args.toList,c.argTypes.toList with
    |[x,y],[t,_]=>match P.underlying t with
      |some (.slice e)=>match eG P e with
        |some (sz+1)=>do pure (.copy (sz+1) (<-cO P x) (<-cO P y))
        |_=>none
      |_=>none
    |_,_=>none
  |_=>none
def qO (P:Program) (o:Op):Option gL:=
  match o with
  | .move x| .assign x=>(cO P x).map gL.du
  | .pick c a b=>do pure (.pick (<-cO P c) (<-cO P a) (<-cO P b))
  | .alloc e=>(kd P e).map gL.new
  | .box _ x=>(cO P x).map gL.box
  | .load t a=>do pure (.load (<-oG P t) (<-eG P t) (<-cO P a))
  | .store t a x=>do pure (.store (<-eG P t) (<-cO P a) (<-cO P x))
  | .nilCheck x=>(cO P x).map gL.BM
  | .binOp op t x y _=>vN P op t x y
  | .unOp .not _ x=>(cO P x).map gL.not
  | .unOp .neg _ x=>(cO P x).map gL.neg
  | .convert s d x=>match P.underlying s,P.underlying d with
    |some (.int _),some (.int k)=>(cO P x).map (gL.conv k)
    |some .string,some .string=>(cO P x).map gL.FI
    |_,_=>none
  | .slice t x lo hi none=>match P.underlying t with
    |some (.slice e)=>do
      pure (.slice (<-eG P e) (<-cO P x) (<-rU P lo) (<-rU P hi))
    |some .string=>do pure (.AR (<-cO P x) (<-rU P lo) (<-rU P hi))
    |_=>none
  | .fieldAddr s x i=>match P.underlying s with
    |some (.struct fs)=>match fs[i]? with
      |some f=>match eG P f.type with
        |some (_+1)=>(cO P x).map (gL.fu f.offset)
        |_=>none
      |none=>none
    |_=>none
  | .field s x i=>match P.underlying s with
    |some (.struct fs)=>match fs[i]? with
      |some f=>do pure (.field (<-oG P f.type) f.offset (<-eG P f.type) (<-cO P x))
      |none=>none
    |_=>none
  | .indexAddr t x i=>match P.underlying t with
    |some (.slice e)=>match eG P e with
      |some (m+1)=>do pure (.dE (m+1) (<-cO P x) (<-cO P i))
      |_=>none
    |some (.array len e)=>match eG P e with
      |some (m+1)=>do pure (.JS len (m+1) (<-cO P x) (<-cO P i))
      |_=>none
    |_=>none
  | .index t x i=>match P.underlying t with
    |some .string=>do pure (.ML (<-cO P x) (<-cO P i))
    |some (.array len e)=>do pure (.fD (<-oG P e) len (<-eG P e) (<-cO P x) (<-cO P i))
    |_=>none
  | .extract x i=>(cO P x).map (gL.extract i)
  | .build t ps=>match P.underlying t with
    |some (.struct fs)=>
      match kd P t,s5 P ps with
      |some z,some l=>
        if fs.all (fun f=>(P.info? f.type).isSome)then(sY P fs l).map (gL.build z)else none
      |_,_=>none
    |some (.array _ e)=>
      match kd P t,s5 P ps,eG P e with
      |some z,some l,some n=>some (.build z (l.map fun(i,x)=>(i*n,n,x)))
      |_,_,_=>none
    |_=>none
  | .buildSlice t len ps=>match P.underlying t with
    |some (.slice e)=>match eG P e,kd P e,s5 P ps with
      |some (sz+1),some _,some l=>
        if len*(sz+1)<=4096/\l.map (·.1)=List.range len then some (.nK (sz+1) len (l.map (·.2)))else none
      |_,_,_=>none
    |_=>none
  | .makeFunc (.func f) first dp=>
    if first= #[]/\fY P f then(dp.toList.mapM (cO P)).map (gL.MZ f)else if dp= #[]/\fY P f then(first.toList.mapM (cO P)).map (gL.M0 f)else none
  | .makeSlice t l c=>match P.underlying t with
    |some (.slice e)=>match eG P e,kd P e,P.info? e with
      |some (_+1),some z,some i=>if i.bytes<=32768 then do pure (.kC z (<-cO P l) (<-cO P c))else none
      |_,_,_=>none
    |_=>none
  | .call c=>ou P c
  | .makeChan t n=>match P.underlying t with
    |some (.chan _ e)=>match P.info? e with
      |some i=>if i.bytes<=32768 then(cO P n).map gL.Kc else none
      |none=>none
    |_=>none
  | .send x y=>do pure (.snd (<-cO P x) (<-cO P y))
  | .recv t x false=>match P.underlying t with
    |some (.chan _ e)=>match (P.info? e).bind (·.zero)with
      |some _=>(cO P x).map gL.Ql
      |none=>none
    |_=>none
  | .makeMap t none=>match s4 P t with
    |some (m,_)=>some (.mq (.new m) [])
    |none=>none
  | .lookup t x k ok=>match s4 P t,cO P x,cO P k with
    |some (m,z),some x,some k=>some (.mq (.look m ok z) [x,k])
    |_,_,_=>none
  | .mapUpdate t x k v| .insert t x k v=>match s4 P t,cO P x,cO P k,cO P v with
    |some (m,_),some x,some k,some v=>some (.mw (.set m) [x,k,v])
    |_,_,_,_=>none
  | .makeInterface _ _=>some .bad
  | .panic _=>some .bad
  |_=>none
inductive UI where
  |pure|look|make|write
  deriving DecidableEq,Repr
def gL.cls:gL->UI
  | .new _| .box _| .nK .. | .kC .. | .mq (.new _) _| .Kc _=>.make
  | .load .. | .dE .. | .slice .. | .call .. | .tV .. | .mq .. | .J1 _=>.look
  | .store .. | .append .. | .copy .. | .clear .. | .mw .. | .snd .. | .Ql _=>.write
  |_=>.pure
def clash:UI->UI->Bool
  | .pure,_|_,.pure=>false
  | .write,_|_,.write=>true
  |_,_=>false
def iN (ops:Array Oper):Array Nat:=Region.before ops
def pj:gL->Bool:=fun o=>o.cls==.make||o.cls==.write
def gL.mD:gL->Bool
  | .call .. | .tV .. =>true
  |_=>false
def DO (ops:Array Oper) (o:Oper):Option (Option (Nat×Bool)):=
  match o.guard with
  |none=>some none
  |some (i,b)=>match (ops[i]?).bind (·.dst)with
    |some t=>some (some (t,b))
    |none=>none
def kY (P:Program) (ops:Array Oper) (nt site0:Nat) (draw mk:Bool) (bs:Array Nat) (hidden:List (Nat×Bool)) (j:Nat) (o:Oper):Option bh:=do
  let v <-qO P o.op
  let g <-DO ops o
  if (o.dst.all fun d=>decide (d<nt))then
    pure {dst:=o.dst,op:=v,guard:=g,site:=site0+j,hid:=if draw then(hidden.filter fun(i,m)=>m&& !(bs.getD j 0).testBit i&&(i !=j||mk&&v.mD)).map fun(i,_)=>site0+i else[]}
  else none
def allM {α:Type} (f:Nat->Oper->Option α):List Oper->Nat->Option (List α)
  |[],_=>some []
  |o::r,j=>do pure ((<-f j o)::(<-allM f r (j+1)))
def il:O->List Nat
  | .t n=>[n]
  |_=>[]
def wV:Option O->List Nat
  |some x=>il x
  |none=>[]
def gL.gQ:gL->List Nat
  | .clear _ x| .du x| .box x| .load _ _ x| .BM x| .RY _ _ x| .TX _ x| .not x| .neg x| .conv _ x| .FI x| .fu _ x| .field _ _ _ x| .extract _ x| .len x| .MT x| .Kc x| .J1 x| .Ql x=>il x
  | .pick c a b=>il c++il a++il b
  | .new _| .bad=>[]
  | .build _ ps=>ps.flatMap fun(_,_,x)=>il x
  | .nK _ _ ps=>ps.flatMap il
  | .store _ a x| .snd a x=>il a++il x
  | .bin _ _ x y| .sh _ x y| .L7 _ x y| .NS _ _ x y| .TW _ _ x y| .dE _ x y| .JS _ _ x y| .ML x y| .fD _ _ _ x y| .append _ x y| .copy _ x y| .kC _ x y=>il x++il y
  | .slice _ x lo hi| .AR x lo hi=>il x++wV lo++wV hi
  | .MZ _ l| .M0 _ l| .call _ l| .mq _ l| .mw _ l=>l.flatMap il
  | .tV x l=>il x++l.flatMap il
def bh.gQ (v:bh):List Nat:=v.op.gQ++(match v.guard with|some (t,_)=>[t]|none=>[])
def rF (x y:bh):Bool:=
  (match x.dst with
   |some d=> !y.gQ.contains d&&y.dst !=some d
   |none=>true)&&
  (match y.dst with
   |some d=> !x.gQ.contains d
   |none=>true)
def bh.makes (v:bh):Bool:=pj v.op||v.op.mD&&v.hid.contains v.site
def yU (x y:bh):Bool:=
  rF x y&& !clash x.op.cls y.op.cls&&(!x.makes||y.hid.contains x.site)&&(!y.makes||x.hid.contains y.site)&&x.site !=y.site
def pQ (ops:Array Oper):Bool:=ops.toList.zipIdx.all fun(o,j)=>o.after.all fun e=> !Region.binds .any e||decide (e.on<j)
def nN (ops:Array Oper) (vl:List bh) (bs:Array Nat):Bool:=
  pQ ops&&vl.zipIdx.all fun(y,j)=>vl.zipIdx.all fun(x,i)=> !(decide (i<j))||(bs.getD j 0).testBit i||yU x y
def o5 (P:Program) (nt site0:Nat) (ops:Array Oper) (draw mk:Bool):Option (List bh):=
  let bs:=if draw then iN ops else #[]
  let hidden:=if draw then ops.toList.zipIdx.map fun(o,i)=>(i,((qO P o.op).map fun v=>pj v||mk&&v.mD).getD false)else[]
  match allM (kY P ops nt site0 draw mk bs hidden) ops.toList 0 with
  |some vl=>if !draw||nN ops vl bs then some vl else none
  |none=>none
def lK (v:bh):Bool:= !v.op.mD&&v.op.cls !=.write
def yS (x y:bh):Bool:=rF x y&&x.op.cls==.pure||yU x y&&lK x&&lK y
def qV (ops:Array Oper) (vl:List bh) (bs:Array Nat) (listed:Array Bool) (i:Nat):Bool:=
  match vl[i]? with
  |some x=>(List.range ops.size).all fun j=>listed.getD j false||j==i||(bs.getD j 0).testBit i||(match vl[j]? with|some y=>yS x y|none=>false)
  |none=>false
def Oq (vl:List bh) (x:bh):Option (Nat×Nat×O):=
  match x.op,x.guard with
  | .append _ (.t t) y,none=>match vl.find? fun v=>v.dst==some t&&v.op.cls==.make with
    |some v=>some (t,v.site,y)
    |none=>none
  |_,_=>none
def FO (s:Nat) (x y:bh):Bool:=rF x y&&lK y&&y.hid.contains s&&y.hid.contains x.site&&y.site !=s&&y.site !=x.site
def pb (ops:Array Oper) (vl:List bh) (bs:Array Nat) (listed:Array Bool) (i s:Nat):Bool:=
  match vl[i]? with
  |some x=>(List.range ops.size).all fun j=>listed.getD j false||j==i||(bs.getD j 0).testBit i||(match vl[j]? with|some y=>FO s x y|none=>false)
  |none=>false
def Qb (ops:Array Oper) (vl:List bh) (bs:Array Nat) (listed:Array Bool) (i:Nat):Option (Nat×Nat×Nat×O×bh):=
  match vl[i]? with
  |some x=>match Oq vl x with
    |some (t,s,y)=>if pb ops vl bs listed i s then some (i,t,s,y,x)else none
    |none=>none
  |none=>none
def BF:List VC->Option VC
  |[]=>none
  |[c]=>some c
  |c::r=>(BF r).map (VC.both c)
def xu (ops:Array Oper) (vl:List bh) (bs:Array Nat):Nat->Array Bool->Option VC
  |0,listed=>
    match Region.ready .any ops listed with
    |[]=>some (.eS false [])
    |_::_=>none
  |n+1,listed=>
    match Region.ready .any ops listed with
    |[]=>some (.eS false [])
    |r::rs=>let rdy:=r::rs
      match rdy.find? (qV ops vl bs listed)with
      |some i=>match vl[i]? with
        |some vo=>(xu ops vl bs n (listed.setIfInBounds i true)).map (VC.one vo)
        |none=>none
      |none=>match rdy.findSome? (Qb ops vl bs listed)with
        |some (i,t,s,y,vo)=>(xu ops vl bs n (listed.setIfInBounds i true)).map fun c=>VC.loc t s y (.one vo c)
        |none=>match rdy.mapM fun i=>(vl[i]?).bind fun vo=>(xu ops vl bs n (listed.setIfInBounds i true)).map (VC.one vo)with
          |some l=>BF l
          |none=>none
def JW:Op->Bool
  | .send .. | .recv .. =>true
  |_=>false
def L2 (P:Program) (nt site0:Nat) (ops:Array Oper) (draw:Bool) (mode:Nat):Option VC:=
  if draw&&mode==2 then
    match allM (kY P ops nt site0 true false (iN ops) (ops.toList.zipIdx.map fun(o,i)=>(i,((qO P o.op).map pj).getD false))) ops.toList 0 with
    |some vl=>xu ops vl (iN ops) ops.size (Array.replicate ops.size false)
    |none=>none
  else if !draw&&ops.any (fun o=>JW o.op)then(o5 P nt site0 ops false false).map VC.O3
  else(o5 P nt site0 ops draw (mode==1)).map (VC.eS draw)
def rn (md:List (Nat×Nat)) (id:Nat):Nat:=
  match md with
  |[]=>0
  |(i,m)::r=>if i=id then m else rn r id
def jH (P:Program) (md:List (Nat×Nat)) (nt fid:Nat):Code->Option VC
  | .skip=>some .skip
  | .region id ops draw=>L2 P nt ((fid*1000+id)*1000) ops draw (rn md id)
  | .seq a b=>do pure (.seq (<-jH P md nt fid a) (<-jH P md nt fid b))
  | .cond c x y=>do pure (.cond (<-cO P c) (<-jH P md nt fid x) (<-jH P md nt fid y))
  | .block id c=>(jH P md nt fid c).map (VC.block id)
  | .loop c=>(jH P md nt fid c).map VC.loop
  | .exit id=>some (.exit id)
  | .ret=>some .ret
  | .label _=>some .skip
  | .scope c=>jH P md nt fid c
  |_=>none
def GF (P:Program) (r:ResultVar):Option qg:=
  match r with
  | .tmp t=>some (.tmp t)
  | .cell a t=>do pure (.cell (<-oG P t) (<-eG P t) a)
def xP (P:Program) (f:Nat) (md:List (Nat×Nat)):Option A9:=
  match P.funcs[f]? with
  |some fn=>match fn.body with
    |some c=>do
      let b <-jH P md fn.ntmps f c
      let r <-fn.results.toList.mapM (GF P)
      if fn.params.size+fn.nfree<=fn.ntmps then pure {ntmps:=fn.ntmps,zk:=fn.params.size+fn.nfree,body:=b,res:=r}else none
    |none=>none
  |none=>none
def nf (P:Program) (f:Nat):Option A9:=xP P f []
theorem ae {P:Prop} (h:P:=by omega):P:=h
theorem bW {P:Prop} (h:P:=by(try dsimp only);omega):P:=h
structure Row where
 w:Bool
 sz:Nat
 rows:List (List AV)
abbrev Rows:=Id->Option Row
structure ax where
 get:Rows
 next:Nat
abbrev Env:=Nat->AV
def upd (env:Env):Option Nat->AV->Env
 |some d,v=>fun t=>if t=d then v else env t
 |none,_=>env
inductive Ex where
 |normal
 |exit (id:Nat)
 |ret
 deriving DecidableEq
def dh (env:Env):O->AV
 | .t n=>env n
 | .k c=>c.av
 | .ka cs=>.agg (cs.map K.av)
 | .f n=>.fn n []
def bU (g:Rows) (id:Id) (r:Row):Rows:=fun i=>if i=id then some r else g i
def cw (g:Rows) (id:Id):Rows:=fun i=>if i=id then none else g i
def gh:List Nat->Nat->Rows->Rows
 |[],_,g=>g
 |h::t,n,g=>fun id=>if (h::t).contains id.site=true/\id.cC=n then none else g id
def ro (g:Rows):Rows:=fun id=>(g id).map fun r=>{r with w:=false}
def part (agg:Bool) (n:Nat) (cs:List AV):Option AV:=
 if agg then(if n<=cs.length then some (.agg (cs.take n))else none)else cs.head?
def rowAt (g:Rows) (id:Id) (i:Nat):Option (List AV):=(g id).bind (·.rows[i]?)
def ld (g:Rows) (agg:Bool) (n:Nat):AV->Option AV
 | .ptr id i off=>(rowAt g id i).bind fun cs=>part agg n (cs.drop off)
 | .dq cs=>part agg n cs
 |_=>none
def dI:BinOp->IntKind->Int->Int->Option AV
 | .add,k,a,b=>some (.int k (k.wrap (a+b)))
 | .sub,k,a,b=>some (.int k (k.wrap (a-b)))
 | .mul,k,a,b=>some (.int k (k.wrap (a*b)))
 | .quo,k,a,b=>if b=0 then none else some (.int k (k.wrap (a.tdiv b)))
 | .rem,k,a,b=>if b=0 then none else some (.int k (a.tmod b))
 | .lss,_,a,b=>some (.bool (decide (a<b)))
 | .leq,_,a,b=>some (.bool (decide (a<=b)))
 | .gtr,_,a,b=>some (.bool (decide (b<a)))
 | .geq,_,a,b=>some (.bool (decide (b<=a)))
 | .and,k,a,b=>some (.int k (k.wrap (BitVec.ofInt k.bits a&&& BitVec.ofInt k.bits b).toNat))
 | .or,k,a,b=>some (.int k (k.wrap (BitVec.ofInt k.bits a|||BitVec.ofInt k.bits b).toNat))
 | .xor,k,a,b=>some (.int k (k.wrap (BitVec.ofInt k.bits a ^^^ BitVec.ofInt k.bits b).toNat))
 |_,_,_,_=>none
def ek (op:BinOp):AV->AV->Option AV
 | .int k a,.int k' b=>if k=k' then dI op k a b else none
 |_,_=>none
def iq (left:Bool):AV->AV->Option AV
 | .int k a,.int _ b=>if b<0 then none else some (.int k (if left then k.wrap (a*2 ^ min b.toNat k.bits)else a.fdiv (2 ^ min b.toNat k.bits)))
 |_,_=>none
def eD:BinOp->ByteArray->ByteArray->Option AV
 | .add,a,b=>if a.size+b.size<=9223372036854775807 then some (.str (a++b))else none
 | .lss,a,b=>some (.bool (Op.bytesLess a.toList b.toList))
 | .leq,a,b=>some (.bool (Op.bytesLess a.toList b.toList||(a.toList==b.toList)))
 | .gtr,a,b=>some (.bool !(Op.bytesLess a.toList b.toList||(a.toList==b.toList)))
 | .geq,a,b=>some (.bool !(Op.bytesLess a.toList b.toList))
 |_,_,_=>none
def de (op:BinOp):AV->AV->Option AV
 | .str a,.str b=>eD op a b
 |_,_=>none
def gj:TS->AV->AV->Option Bool
 | .tI,.int k a,.int k' b=>if k=k' then some (decide (a=b))else none
 | .tB,.bool a,.bool b=>some (a==b)
 | .tS,.str a,.str b=>some (decide (a=b))
 |_,_,_=>none
def fq:List TS->List AV->List AV->Option Bool
 |[],[],[]=>some true
 |t::ts,a::r,b::s=>match gj t a b,fq ts r s with
  |some x,some y=>some (x&&y)
  |_,_=>none
 |_,_,_=>none
def dx (neg b:Bool):Bool:=if neg then !b else b
def db:AV->Option Bool
 | .ck=>some true
 | .own _ _ _=>some false
 | .sl (_::_)=>some false
 |_=>none
def da:AV->Option Bool
 | .jX=>some true
 | .fn _ _=>some false
 |_=>none
def K2:AV->Option Bool
 | .iI=>some true
 | .ptr .. | .dq _=>some false
 |_=>none
def ew (MO:Bool) (x:AV):Option Bool:=if MO then da x else db x
def dW (len:Nat):Option AV->Option Nat
 |none=>some len
 |some (.int _ n)=>if 0<=n/\n<=len then some n.toNat else none
 |_=>none
def dY (h:Nat):Option AV->Option Nat
 |none=>some 0
 |some (.int _ n)=>if 0<=n/\n<=h then some n.toNat else none
 |_=>none
def bR (g:Rows) (sz:Nat) (x:AV) (lo hi:Option AV):Option AV:=
 match x with
 | .ck=>(dW 0 hi).bind fun h=>(dY h lo).map fun _=>.ck
 | .sl rows=>(dW rows.length hi).bind fun h=>(dY h lo).bind fun l=>if ∀cs∈rows,cs.length=sz then some (.sl ((rows.drop l).take (h-l)))else none
 | .own id off len=>(g id).bind fun r=>(dW len hi).bind fun h=>(dY h lo).bind fun l=>if r.sz=sz then some (.own id (off+l) (h-l))else none
 |_=>none
def bd (x:AV) (lo hi:Option AV):Option AV:=
 match x with
 | .str s=>(dW s.size hi).bind fun h=>(dY h lo).map fun l=>.str (s.extract l h)
 |_=>none
def Fv (off:Nat):AV->Option AV
 | .ptr id i o=>some (.ptr id i (o+off))
 | .dq cs=>some (.dq (cs.drop off))
 |_=>none
def bQ (g:Rows) (sz:Nat):AV->AV->Option AV
 | .sl rows,.int _ n=>if 0<=n then(rows[n.toNat]?).bind fun cs=>if cs.length=sz then some (.dq cs)else none else none
 | .own id off len,.int _ n=>if 0<=n/\n<len then(g id).bind fun r=>if r.sz=sz then some (.ptr id (off+n.toNat) 0)else none else none
 |_,_=>none
def cU (len sz:Nat):AV->AV->Option AV
 | .ptr id r off,.int _ n=>if 0<=n/\n<len then some (.ptr id r (off+n.toNat*sz))else none
 | .dq cs,.int _ n=>if 0<=n/\n<len then some (.dq (cs.drop (n.toNat*sz)))else none
 |_,_=>none
def cW:AV->AV->Option AV
 | .str s,.int _ n=>if 0<=n then(s[n.toNat]?).map fun b=>.int .u8 b.toNat else none
 |_,_=>none
def cV (agg:Bool) (len n:Nat):AV->AV->Option AV
 | .agg cs,.int _ i=>if 0<=i/\i<len then part agg n (cs.drop (i.toNat*n))else none
 |_,_=>none
def er:AV->Option Nat
 | .ck=>some 0
 | .sl rows=>some rows.length
 | .own _ _ n=>some n
 |_=>none
def ez:AV->Option AV
 | .bool b=>some (.bool !b)
 |_=>none
def eu:AV->Option AV
 | .int k n=>some (.int k (k.wrap (0-n)))
 |_=>none
def cR (k:IntKind):AV->Option AV
 | .int _ n=>some (.int k (k.wrap n))
 |_=>none
def bV:AV->Option AV
 | .str s=>some (.str s)
 |_=>none
def dc:AV->AV->AV->Option AV
 | .bool c,a,b=>some (if c then a else b)
 |_,_,_=>none
def eo:AV->Option AV
 | .ptr id i o=>some (.ptr id i o)
 | .dq cs=>some (.dq cs)
 |_=>none
def bP (agg:Bool) (off n:Nat):AV->Option AV
 | .agg cs=>if off+n<=cs.length then part agg n (cs.drop off)else none
 |_=>none
def aL (i:Nat):AV->Option AV
 | .iJ vs=>vs[i]?
 |_=>none
def cY:AV->Option AV
 | .str s=>some (.int .i64 s.size)
 |_=>none
def rowOf (sz:Nat) (v:AV):Option (List AV):=if v.cells.length=sz/\v.cells.all AV.cell then some v.cells else none
def cP (v:AV):Option (List AV):=if v.cells.all AV.cell then some v.cells else none
def rowsOf (sz:Nat):List AV->Option (List (List AV))
 |[]=>some []
 |v::r=>(rowOf sz v).bind fun c=>(rowsOf sz r).map fun cs=>c::cs
def cI:List AV->List (Nat×Nat×AV)->Option (List AV)
 |cs,[]=>some cs
 |cs,(off,n,v)::r=>if v.cells.length=n/\off+n<=cs.length/\v.cells.all AV.cell then cI (cs.take off++v.cells++cs.drop (off+n)) r else none
def dF:Nat:=16777216
def im (zero:List K):AV->AV->Option (Nat×Row)
 | .int _ l,.int _ c=>if 0<=l/\l<=c/\c<=dF then some (l.toNat,⟨true,zero.length,List.replicate l.toNat (zero.map K.av)⟩)else none
 |_,_=>none
def qt:Nat:=1000000000
def MK.ks (m:MK):Nat:=m.ts.length
def MK.AM (m:MK):Nat:=qt+m.ks
def AV.isAgg:AV->Bool
 | .agg _=>true
 |_=>false
def jk (m:MK) (key:List AV):List (List AV)->Nat->Option (Option Nat)
 |[],_=>some none
 |r::l,i=>match fq m.ts key (r.take m.ks)with
  |some true=>some (some i)
  |some false=>jk m key l (i+1)
  |none=>none
def dZ (g:Rows) (m:MK):AV->Option (Id×Row)
 | .map id m'=>if m'=m then(g id).map fun r=>(id,r)else none
 |_=>none
def iV (m:MK) (k:AV) (rows:List (List AV)):Option (Option Nat):=if k.isAgg=m.ka/\k.cells.length=m.ks/\k.cells.all AV.cell then jk m k.cells rows 0 else none
def ej (m:MK) (z:K) (rows:List (List AV)):Option Nat->Option AV
 |some i=>(rows[i]?).bind fun cs=>cs[m.ks]?
 |none=>some z.av
def bx (q:MQ) (vs:List AV) (g:Rows) (id:Id):Option (AV×Option Row):=
 match q,vs with
 | .new m,[]=>some (.map id m,some ⟨true,m.AM,[]⟩)
 | .look m ok z,[x,k]=>(dZ g m x).bind fun p=>(iV m k p.2.rows).bind fun fi=>(ej m z p.2.rows fi).map fun v=>(if ok then .iJ [v,.bool fi.isSome]else v,none)
 | .len m,[x]=>(dZ g m x).map fun p=>(.int .i64 p.2.rows.length,none)
 |_,_=>none
def rW:Nat:=2000000000
def cZ:AV->Option Nat
 | .int _ n=>if 0<=n/\n<=1048576 then some n.toNat else none
 |_=>none
def cX (g:Rows):AV->Option AV
 | .s8 id=>(g id).map fun r=>.int .i64 r.rows.length
 |_=>none
def eB (g:Rows):AV->AV->Option Rows
 | .s8 id,v=>(g id).bind fun r=>if r.w/\rW+r.rows.length<r.sz/\v.cell then some (bU g id {r with rows:=r.rows++[[v]]})else none
 |_,_=>none
def eA (g:Rows):AV->Option (AV×Rows)
 | .s8 id=>(g id).bind fun r=>match r.rows with
  |[v]::rest=>if r.w then some (v,bU g id {r with rows:=rest})else none
  |_=>none
 |_=>none
def dV (rows:List (List AV)) (e:List AV):Option Nat->List (List AV)
 |some i=>rows.set i e
 |none=>rows++[e]
def ec (rows:List (List AV)):Option Nat->List (List AV)
 |some i=>rows.eraseIdx i
 |none=>rows
def bE (q:MW) (vs:List AV) (g:Rows):Option Rows:=
 match q,vs with
 | .set m,[x,k,v]=>(dZ g m x).bind fun p=>(iV m k p.2.rows).bind fun fi=>if p.2.w/\v.cell/\v.isAgg=false then some (bU g p.1 {p.2 with rows:=dV p.2.rows (k.cells++[v]) fi})else none
 | .del m,[x,k]=>(dZ g m x).bind fun p=>(iV m k p.2.rows).bind fun fi=>if p.2.w then some (bU g p.1 {p.2 with rows:=ec p.2.rows fi})else none
 |_,_=>none
def eW (o:gL) (ρ:O->AV) (g:Rows) (id:Id):Option (AV×Option Row):=
 match o with
 | .du x=>some (ρ x,none)
 | .pick c a b=>(dc (ρ c) (ρ a) (ρ b)).map (·,none)
 | .new zero=>some (.ptr id 0 0,some ⟨true,zero.length,[zero.map K.av]⟩)
 | .box x=>(cP (ρ x)).map fun cs=>(.ptr id 0 0,some ⟨true,cs.length,[cs]⟩)
 | .build zero parts=>(cI (zero.map K.av) (parts.map fun(o,n,x)=>(o,n,ρ x))).map fun cs=>(.agg cs,none)
 | .nK sz len parts=>(rowsOf sz (parts.map ρ)).map fun rs=>(.own id 0 len,some ⟨true,sz,rs⟩)
 | .load agg n a=>(ld g agg n (ρ a)).map (·,none)
 | .BM x=>(eo (ρ x)).map (·,none)
 | .bin op _ x y=>(ek op (ρ x) (ρ y)).map (·,none)
 | .sh left x y=>(iq left (ρ x) (ρ y)).map (·,none)
 | .L7 op x y=>(de op (ρ x) (ρ y)).map (·,none)
 | .NS neg t x y=>(gj t (ρ x) (ρ y)).map fun b=>(.bool (dx neg b),none)
 | .TW neg ts x y=>match ρ x,ρ y with
  | .agg xs,.agg ys=>(fq ts xs ys).map fun b=>(.bool (dx neg b),none)
  |_,_=>none
 | .RY neg MO x=>(ew MO (ρ x)).map fun b=>(.bool (dx neg b),none)
 | .TX neg x=>(K2 (ρ x)).map fun b=>(.bool (dx neg b),none)
 | .not x=>(ez (ρ x)).map (·,none)
 | .neg x=>(eu (ρ x)).map (·,none)
 | .conv k x=>(cR k (ρ x)).map (·,none)
 | .FI x=>(bV (ρ x)).map (·,none)
 | .slice sz x lo hi=>(bR g sz (ρ x) (lo.map ρ) (hi.map ρ)).map (·,none)
 | .AR x lo hi=>(bd (ρ x) (lo.map ρ) (hi.map ρ)).map (·,none)
 | .fu off x=>(Fv off (ρ x)).map (·,none)
 | .field agg off n x=>(bP agg off n (ρ x)).map (·,none)
 | .dE sz x i=>(bQ g sz (ρ x) (ρ i)).map (·,none)
 | .JS len sz x i=>(cU len sz (ρ x) (ρ i)).map (·,none)
 | .ML x i=>(cW (ρ x) (ρ i)).map (·,none)
 | .fD agg len n x i=>(cV agg len n (ρ x) (ρ i)).map (·,none)
 | .extract i x=>(aL i (ρ x)).map (·,none)
 | .len x=>(er (ρ x)).map fun(n:Nat)=>(AV.int .i64 (n:Int),none)
 | .MT x=>(cY (ρ x)).map (·,none)
 | .MZ f dp=>some (.fn f (dp.map ρ),none)
 | .M0 f first=>some (.xJ f (first.map ρ),none)
 | .kC zero l c=>(im zero (ρ l) (ρ c)).map fun(n,r)=>(.own id 0 n,some r)
 | .mq q xs=>bx q (xs.map ρ) g id
 | .Kc x=>(cZ (ρ x)).map fun n=>(.s8 id,some ⟨true,rW+n,[]⟩)
 | .J1 x=>(cX g (ρ x)).map (·,none)
 |_=>none
def br (g:Rows):AV->Option (List (List AV))
 | .ck=>some []
 | .sl rows=>some rows
 | .own id off len=>(g id).bind fun r=>if off+len<=r.rows.length then some ((r.rows.drop off).take len)else none
 |_=>none
def cH (cs:List AV) (off:Nat) (xs:List AV):List AV:=cs.take off++xs++cs.drop (off+xs.length)
def bz (g:Rows) (n:Nat) (v:AV):AV->Option Rows
 | .ptr id i off=>(g id).bind fun r=>(r.rows[i]?).bind fun cs=>
  if r.w/\v.cells.length=n/\v.cells.all AV.cell/\off+n<=cs.length then some (bU g id {r with rows:=r.rows.set i (cH cs off v.cells)})else none
 |_=>none
def bc (g:Rows) (id:Id) (sz:Nat) (x:AV) (ys:List (List AV)):Option (AV×Rows):=
 match x with
 | .ck=>match ys with
  |[]=>some (.ck,g)
  |y::r=>if (y::r).length<=dF/\(y::r).all (fun c=>c.length==sz&&c.all AV.cell)then some (.own id 0 (y::r).length,bU g id ⟨true,sz,y::r⟩)else none
 | .own i 0 len=>(g i).bind fun r=>
  if r.w/\r.sz=sz/\len=r.rows.length/\len+ys.length<=dF/\ys.all (fun c=>c.length==sz&&c.all AV.cell)then some (.own id 0 (len+ys.length),bU (cw g i) id ⟨true,sz,r.rows++ys⟩)else none
 |_=>none
def Gl (g:Rows) (sz:Nat) (x:AV) (ys:List (List AV)):Option (AV×Rows):=
 match x with
 | .own i off len=>(g i).bind fun r=>
  if r.w/\r.sz=sz/\off+len<=r.rows.length/\ys.all (fun c=>c.length==sz&&c.all AV.cell)then
   some (.int .i64 (min ys.length len:Nat),bU g i {r with rows:=r.rows.take off++ys.take (min ys.length len)++r.rows.drop (off+min ys.length len)})else none
 |_=>none
def bL (g:Rows) (zero:List K) (x:AV):Option Rows:=
 match x with
 | .ck=>some g
 | .own i off len=>(g i).bind fun r=>
  if r.w/\r.sz=zero.length/\off+len<=r.rows.length then
   some (bU g i {r with rows:=r.rows.take off++List.replicate len (zero.map K.av)++r.rows.drop (off+len)})else none
 |_=>none
def fZ (o:gL) (ρ:O->AV) (g:Rows) (id:Id):Option (AV×Rows):=
 match o with
 | .store n a x=>(bz g n (ρ x) (ρ a)).map fun g'=>(.undef,g')
 | .append sz x y=>(br g (ρ y)).bind fun ys=>bc g id sz (ρ x) ys
 | .copy sz x y=>(br g (ρ y)).bind fun ys=>Gl g sz (ρ x) ys
 | .clear zero x=>(bL g zero (ρ x)).map fun g'=>(.undef,g')
 | .mw q xs=>(bE q (xs.map ρ) g).map fun g'=>(.undef,g')
 |_=>none
def vO:AV->List AV->Option (Nat×List AV)
 | .fn f dp,l=>some (f,l++dp)
 | .xJ f first,l=>some (f,first++l)
 |_,_=>none
abbrev fm:=Nat->List AV->ax->(AV->ax->Prop)->Prop
mutual
def fz (g:Rows):Nat->AV->Option AV
 |0,_=>none
 |n+1,a=>match a with
  | .own id off len=>match g id with
   |some r=>if r.w then(if off+len<=r.rows.length then(eK g n ((r.rows.drop off).take len)).map AV.sl else none)else none
   |none=>none
  | .ptr id i off=>match g id with
   |some r=>if r.w then(match r.rows[i]? with
    |some cs=>(cQ g n (cs.drop off)).map AV.dq
    |none=>none)else none
   |none=>none
  | .agg cs=>(cQ g n cs).map AV.agg
  | .iJ vs=>(cQ g n vs).map AV.iJ
  | .fn f dp=>if dp.all AV.cell then(cQ g n dp).map (AV.fn f)else none
  | .map _ _| .xJ _ _| .s8 _=>none
  |v=>some v
 termination_by n _=>(n,0)
def cQ (g:Rows):Nat->List AV->Option (List AV)
 |n,[]=>some []
 |n,a::r=>match fz g n a with
  |some b=>(cQ g n r).map (b::·)
  |none=>none
 termination_by n l=>(n,l.length+1)
def eK (g:Rows):Nat->List (List AV)->Option (List (List AV))
 |n,[]=>some []
 |n,c::r=>match cQ g n c with
  |some b=>(eK g n r).map (b::·)
  |none=>none
 termination_by n l=>(n,(l.map (fun c=>c.length+2)).sum+1)
 decreasing_by all_goals simp_wf;try omega
end
mutual
def gw (g:Rows):Nat->AV->Option AV
 |0,_=>none
 |n+1,a=>match a with
  | .own id off len=>match g id with
   |some r=>if r.w then(if off+len<=r.rows.length then(iK g n ((r.rows.drop off).take len)).map AV.sl else none)else none
   |none=>none
  | .ptr id i off=>match g id with
   |some r=>if r.w then(match r.rows[i]? with
    |some cs=>(eh g n (cs.drop off)).map AV.dq
    |none=>none)else none
   |none=>none
  | .agg cs=>(eh g n cs).map AV.agg
  | .iJ vs=>(eh g n vs).map AV.iJ
  | .int k m=>some (.int k m)
  | .bool b=>some (.bool b)
  | .str s=>some (.str s)
  | .ck=>some .ck
  | .iI=>some .iI
  | .jX=>some .jX
  | .j9=>some .j9
  |_=>none
 termination_by n _=>(n,0)
def eh (g:Rows):Nat->List AV->Option (List AV)
 |n,[]=>some []
 |n,a::r=>match gw g n a with
  |some b=>(eh g n r).map (b::·)
  |none=>none
 termination_by n l=>(n,l.length+1)
def iK (g:Rows):Nat->List (List AV)->Option (List (List AV))
 |n,[]=>some []
 |n,c::r=>match eh g n c with
  |some b=>(iK g n r).map (b::·)
  |none=>none
 termination_by n l=>(n,(l.map (fun c=>c.length+2)).sum+1)
 decreasing_by all_goals simp_wf;try omega
end
def dM (g:Rows):Rows:=fun id=>(g id).map fun r=>{r with w:=true}
def PC (X:fm) (f:Nat) (args:List AV) (σ:ax) (K:AV->Prop):Prop:=
 X f args ⟨ro σ.get,σ.next⟩ fun r σ'=>∃r',fz σ'.get 6 r=some r'/\K r'
def PCv (X:fm) (f:Nat) (args:List AV) (σ:ax) (K:AV->Prop):Prop:=
 ∃fx,cQ (dM σ.get) 6 args=some fx/\X f fx ⟨fun _=>none,σ.next⟩ fun r σ'=>∃r',gw σ'.get 6 r=some r'/\K r'
def gN (X:fm) (f:Nat) (args:List AV) (σ:ax) (K:AV->Prop):Prop:=PC X f args σ K∨PCv X f args σ K
def aH (g:Option (Nat×Bool)) (env:Env):Bool:=
 match g with
 |none=>true
 |some (t,b)=>match env t with
  | .bool c=>c==b
  |_=>false
def AV.plain:AV->Bool
 | .int .. | .bool _| .str _| .ck| .iI| .jX| .j9=>true
 |_=>false
def CM (X:fm) (f:Nat) (args:List AV) (σ:ax) (sz:Nat) (rows:List (List AV)):Prop:=
 (∀c∈rows,∀a∈c,a.plain=true)/\∃fx,cQ (dM σ.get) 6 args=some fx/\X f fx ⟨fun _=>none,σ.next⟩ fun r σ'=>∃id,r=.own id 0 rows.length/\σ'.get id=some ⟨true,sz,rows⟩
def cJ (X:fm) (draw:Bool) (hid:List Nat) (site:Nat) (f:Nat) (args:List AV) (σ:ax) (next:AV->ax->Prop):Prop:=
 (∃r,gN X f args ⟨gh hid σ.next σ.get,σ.next+1⟩ (fun r'=>r'=r)/\next r σ)∨
 (draw=false/\X f args ⟨σ.get,σ.next+1⟩ next)∨
 (hid.contains site=true/\∃sz rows,CM X f args ⟨gh hid σ.next σ.get,σ.next+1⟩ sz rows/\next (.own ⟨site,σ.next⟩ 0 rows.length) ⟨bU σ.get ⟨site,σ.next⟩ ⟨true,sz,rows⟩,σ.next⟩)
def fJ (X:fm) (draw:Bool) (o:bh) (env:Env) (σ:ax) (next:AV->ax->Prop):Prop:=
 match o.op with
 | .call f args=>cJ X draw o.hid o.site f (args.map (dh env)) σ next
 | .tV x args=>match dh env x with
  | .fn f dp=>cJ X draw o.hid o.site f (args.map (dh env)++dp) σ next
  | .xJ f first=>cJ X draw o.hid o.site f (first++args.map (dh env)) σ next
  |_=>False
 | .store .. | .append .. | .copy .. | .clear .. | .mw .. =>match fZ o.op (dh env) σ.get ⟨o.site,σ.next⟩with
  |some (v,g)=>next v ⟨g,σ.next⟩
  |none=>False
 |_=>match eW o.op (dh env) (gh o.hid σ.next σ.get) ⟨o.site,σ.next⟩with
  |some (v,some r)=>next v ⟨bU σ.get ⟨o.site,σ.next⟩ r,σ.next⟩
  |some (v,none)=>next v σ
  |none=>False
def wpOps (X:fm) (draw:Bool):List bh->(Env->ax->Prop)->Env->ax->Prop
 |[],K,env,σ=>K env ⟨σ.get,σ.next+1⟩
 |o::r,K,env,σ=>
  if aH o.guard env then fJ X draw o env σ fun v σ'=>wpOps X draw r K (upd env o.dst v) σ'
  else wpOps X draw r K (upd env o.dst .undef) σ
def cF:List bh->(Env->ax->Prop)->Env->ax->Prop
 |[],K,env,σ=>K env ⟨σ.get,σ.next+1⟩
 |o::r,K,env,σ=>o.guard=none/\match o.op with
  | .snd x y=>match eB σ.get (dh env x) (dh env y)with
   |some g=>cF r K (upd env o.dst .undef) ⟨g,σ.next⟩
   |none=>False
  | .Ql x=>match eA σ.get (dh env x)with
   |some (v,g)=>cF r K (upd env o.dst v) ⟨g,σ.next⟩
   |none=>False
  |op=>match eW op (dh env) σ.get ⟨o.site,σ.next⟩with
   |some (v,none)=>cF r K (upd env o.dst v) σ
   |_=>False
def dB (next:Env->ax->Prop) (Q:Ex->Env->ax->Prop):Ex->Env->ax->Prop
 | .normal=>next
 |e=>Q e
def bo (id:Nat) (Q:Ex->Env->ax->Prop):Ex->Env->ax->Prop
 | .exit kS=>if kS=id then Q .normal else Q (.exit kS)
 |e=>Q e
def CF (W:(Ex->Env->ax->Prop)->Env->ax->Prop) (Q:Ex->Env->ax->Prop):Nat->Env->ax->Prop
 |0=>fun _ _=>False
 |n+1=>W (dB (CF W Q n) Q)
def MU (t s:Nat) (y:O) (env:Env) (n:Nat):Prop:=(∃len,env t=.own ⟨s,n⟩ 0 len)/\∀id o l,dh env y=.own id o l->id.cC≠n
def ef (X:fm):VC->(Ex->Env->ax->Prop)->Env->ax->Prop
 | .skip,Q=>Q .normal
 | .eS draw ops,Q=>wpOps X draw ops (Q .normal)
 | .seq a b,Q=>ef X a (dB (ef X b Q) Q)
 | .cond c x y,Q=>fun env σ=>match dh env c with
  | .bool b=>if b then ef X x Q env σ else ef X y Q env σ
  |_=>False
 | .block id c,Q=>ef X c (bo id Q)
 | .loop c,Q=>fun env σ=>∃n,CF (ef X c) Q n env σ
 | .exit id,Q=>Q (.exit id)
 | .ret,Q=>Q .ret
 | .one o c,Q=>fun env σ=>if aH o.guard env then fJ X false o env σ fun v σ'=>ef X c Q (upd env o.dst v) σ' else ef X c Q (upd env o.dst .undef) σ
 | .both a b,Q=>fun env σ=>ef X a Q env σ/\ef X b Q env σ
 | .loc t s y c,Q=>fun env σ=>MU t s y env σ.next/\ef X c Q env σ
 | .O3 ops,Q=>cF ops (Q .normal)
def gS (env:Env) (g:Rows):qg->Option AV
 | .tmp t=>some (env t)
 | .cell agg n t=>ld g agg n (env t)
def fo (env:Env) (g:Rows):List qg->Option (List AV)
 |[]=>some []
 |r::l=>(gS env g r).bind fun v=>(fo env g l).map (v::·)
def eJ:List AV->AV
 |[v]=>v
 |l=>.iJ l
def cD (args:List AV):Env:=fun t=>args.getD t .undef
def mH (res:List qg) (K:AV->ax->Prop):Ex->Env->ax->Prop
 | .exit _,_,_=>False
 |_,env,σ=>∃vs,fo env σ.get res=some vs/\K (eJ vs) σ
inductive ja (P:Program) (w:World) (D:Nat->Prop):AV->Value->Prop
 |int (k n):ja P w D (.int k n) (.int k n)
 |bool (b):ja P w D (.bool b) (.bool b)
 |str (s):ja P w D (.str s) (.string s)
 |ck:ja P w D .ck (.slice none 0 0)
 |iI:ja P w D .iI (.pointer none)
 |jX:ja P w D .jX .nilFunc
 |Dw (a c):c<=maxLen->ja P w D (.sl []) (.slice a 0 c)
 |sl (rows b o n c sz) (vs:Nat->Nat->Value):rows.length=n->n<=c->c<=maxLen->D b->(∀cs∈rows,cs.length=sz)->(∀cs∈rows,∀a∈cs,a.cell=true)->
   (∀i j,i<n->j<sz->w.cell? ⟨b,o+(i*sz+j),none⟩=some (vs i j))->
   (∀i j cs a,rows[i]? =some cs->cs[j]? =some a->ja P w D a (vs i j))->ja P w D (.sl rows) (.slice (some ⟨b,o,none⟩) n c)
 |dq (cs b o) (vs:Nat->Value):D b->(∀a∈cs,a.cell=true)->(∀j,j<cs.length->w.cell? ⟨b,o+j,none⟩=some (vs j))->
   (∀j a,cs[j]? =some a->ja P w D a (vs j))->ja P w D (.dq cs) (.pointer (some ⟨b,o,none⟩))
 |agg (cs) (vs:Array Value) (f:Nat->Value):vs.size=cs.length->(∀a∈cs,a.cell=true)->(∀j,j<cs.length->vs[j]? =some (f j))->(∀j a,cs[j]? =some a->ja P w D a (f j))->ja P w D (.agg cs) (.agg vs)
 |fn (f dp) (vs:Array Value) (g:Nat->Value):fY P f=true->vs.size=dp.length->(∀j,j<dp.length->vs[j]? =some (g j))->(∀j a,dp[j]? =some a->ja P w D a (g j))->ja P w D (.fn f dp) (.func (.func f) #[] vs)
 |j9:ja P w D .j9 (.map none)
inductive BK where
 |map (m:MK)
 |chan (cap:Nat)
structure sU where
 b:Nat
 sz:Nat
 C:Nat
 k:Option BK
abbrev Names:=Id->Option sU
inductive cN (P:Program) (w:World) (D:Nat->Prop) (ι:Names):AV->Value->Prop
 |eO (a v):ja P w D a v->cN P w D ι a v
 |own (id off len o cap B):ι id=some B->B.k=none->len<=cap->(cap=0∨o=off*B.sz)->(off+cap)*B.sz<=B.C->cap<=maxLen->cN P w D ι (.own id off len) (.slice (some ⟨B.b,o,none⟩) len cap)
 |ptr (id i off B):ι id=some B->B.k=none->cN P w D ι (.ptr id i off) (.pointer (some ⟨B.b,i*B.sz+off,none⟩))
 |agg (cs) (vs:Array Value) (f:Nat->Value):vs.size=cs.length->(∀a∈cs,a.cell=true)->(∀j,j<cs.length->vs[j]? =some (f j))->(∀j a,cs[j]? =some a->cN P w D ι a (f j))->cN P w D ι (.agg cs) (.agg vs)
 |iJ (cs) (vs:Array Value) (f:Nat->Value):vs.size=cs.length->(∀j,j<cs.length->vs[j]? =some (f j))->(∀j a,cs[j]? =some a->cN P w D ι a (f j))->cN P w D ι (.iJ cs) (.tuple vs)
 |fn (f dp) (vs:Array Value) (g:Nat->Value):fY P f=true->vs.size=dp.length->(∀j,j<dp.length->vs[j]? =some (g j))->(∀j a,dp[j]? =some a->cN P w D ι a (g j))->cN P w D ι (.fn f dp) (.func (.func f) #[] vs)
 |s8 (id c B):ι id=some B->B.k=some (.chan c)->cN P w D ι (.s8 id) (.chan (some B.b))
 |map (id m B):ι id=some B->B.k=some (.map m)->cN P w D ι (.map id m) (.map (some B.b))
 |xJ (f dp) (vs:Array Value) (g:Nat->Value):fY P f=true->vs.size=dp.length->(∀j,j<dp.length->vs[j]? =some (g j))->(∀j a,dp[j]? =some a->cN P w D ι a (g j))->cN P w D ι (.xJ f dp) (.func (.func f) vs #[])
variable {P:Program} {w w':World} {D D':Nat->Prop} {ι ι':Names}
theorem ja.frame (hD:∀b,D b->w'.heap[b]? =w.heap[b]?) (hs:∀b,D b->D' b) {a:AV} {v:Value} (h:ja P w D a v):ja P w' D' a v:=by
 induction h with
 |int k n=>exact .int k n
 |bool b=>exact .bool b
 |str s=>exact .str s
 |ck=>exact .ck
 |iI=>exact .iI
 |jX=>exact .jX
 |j9=>exact .j9
 |Dw a c h=>exact .Dw a c h
 |sl rows b o n c sz vs h1 h2 h3 h4 h5 h5' h6 _ ih=>exact .sl rows b o n c sz vs h1 h2 h3 (hs b h4) h5 h5' (fun i j hi hj=>(World.cell?_of_block (hD b h4)).trans (h6 i j hi hj)) ih
 |dq cs b o vs h1 Sc h2 _ ih=>exact .dq cs b o vs (hs b h1) Sc (fun j hj=>(World.cell?_of_block (hD b h1)).trans (h2 j hj)) ih
 |agg cs vs f h1 h2 h3 _ ih=>exact .agg cs vs f h1 h2 h3 ih
 |fn f dp vs g h1 h2 h3 _ ih=>exact .fn f dp vs g h1 h2 h3 ih
theorem cN.frame (hD:∀b,D b->w'.heap[b]? =w.heap[b]?) (hs:∀b,D b->D' b) (hι:∀id B,ι id=some B->ι' id=some B) {a:AV} {v:Value} (h:cN P w D ι a v):cN P w' D' ι' a v:=by
 induction h with
 |eO a v h=>exact .eO a v (h.frame hD hs)
 |map id m B h1 h2=>exact .map id m B (hι _ _ h1) h2
 |s8 id c B h1 h2=>exact .s8 id c B (hι _ _ h1) h2
 |own id off len o cap B h1 h2 h3 h4 h5 h6=>exact .own id off len o cap B (hι _ _ h1) h2 h3 h4 h5 h6
 |ptr id i off B h1 h2=>exact .ptr id i off B (hι _ _ h1) h2
 |agg cs vs f h1 h2 h3 _ ih=>exact .agg cs vs f h1 h2 h3 ih
 |iJ cs vs f h1 h2 _ ih=>exact .iJ cs vs f h1 h2 ih
 |fn f dp vs g h1 h2 h3 _ ih=>exact .fn f dp vs g h1 h2 h3 ih
 |xJ f dp vs g h1 h2 h3 _ ih=>exact .xJ f dp vs g h1 h2 h3 ih
theorem cN.undef:cN P w D ι .undef Go.undef:=.iJ [] #[] (fun _=>Go.undef) rfl (fun j hj=>by simp at hj) (fun j a h=>by simp at h)
theorem w8 (c:K):cN P w D ι c.av c.val:=by
 cases c with
 |int k n=>exact .eO _ _ (.int k n)
 |bool b=>exact .eO _ _ (.bool b)
 |str l=>exact .eO _ _ (.str _)
 |ck=>exact .eO _ _ .ck
 |iI=>exact .eO _ _ .iI
 |jX=>exact .eO _ _ .jX
 |j9=>exact .eO _ _ .j9
theorem K.nG (c:K):c.av.cell=true:=by cases c<;>rfl
theorem Ao {v:Value} {c:K} (h:Hm v=some c):v=c.val:=by
 unfold Hm at h
 split at h<;>simp at h<;>subst h<;>rfl
theorem cN.BJ {a:AV} {v:Value} (h:cN P w D ι a v) (hc:a.cell=true):v.cells= #[v]/\(∀vs,v≠.agg vs)/\(∀vs,v≠.tuple vs):=by
 cases h with
 |eO a v h=>cases h<;>simp_all [AV.cell,Value.cells]
 |own=>simp[Value.cells]
 |map=>simp[Value.cells]
 |s8=>simp[Value.cells]
 |ptr=>simp[Value.cells]
 |agg=>simp[AV.cell]at hc
 |iJ=>simp[AV.cell]at hc
 |fn=>simp[Value.cells]
 |xJ=>simp[Value.cells]
theorem cN.cells {a:AV} {v:Value} (h:cN P w D ι a v) (ha:a.cells.all AV.cell=true):v.cells.size=a.cells.length/\∃f:Nat->Value,(∀j,j<a.cells.length->v.cells[j]? =some (f j))/\∀j x,a.cells[j]? =some x->cN P w D ι x (f j):=by
 have one:∀(a:AV) (v:Value),a.cell=true->a.cells=[a]->cN P w D ι a v->v.cells.size=a.cells.length/\∃f:Nat->Value,(∀j,j<a.cells.length->v.cells[j]? =some (f j))/\∀j x,a.cells[j]? =some x->cN P w D ι x (f j):=by
  intro a v hc dy h
  obtain⟨h1,_,_⟩:=h.BJ hc
  rw[h1,dy]
  refine⟨rfl,fun _=>v,fun j hj=>?_,fun j x hx=>?_⟩
  ·have:j=0:=by simp at hj;omega
   subst this;rfl
  ·cases j with
   |zero=>simp at hx;subst hx;exact h
   |succ j=>simp at hx
 cases h with
 |eO a v h=>
  cases h with
  |agg cs vs f h1 h2 h3 h4=>exact⟨h1,f,h3,fun j x hx=>.eO _ _ (h4 j x hx)⟩
  |_=>exact one _ _ rfl rfl (.eO _ _ (by constructor<;>assumption))
 |own id off len o cap B h1 h2 h3 h4 h5 h6=>exact one _ _ rfl rfl (.own id off len o cap B h1 h2 h3 h4 h5 h6)
 |ptr id i off B h1 h2=>exact one _ _ rfl rfl (.ptr id i off B h1 h2)
 |map id m B h1 h2=>exact one _ _ rfl rfl (.map id m B h1 h2)
 |s8 id c B h1 h2=>exact one _ _ rfl rfl (.s8 id c B h1 h2)
 |agg cs vs f h1 h2 h3 h4=>exact⟨h1,f,h3,h4⟩
 |iJ cs vs f h1 h2 h3=>simp[AV.cells,AV.cell]at ha
 |fn f dp vs g h1 h2 h3 h4=>exact one _ _ rfl rfl (.fn f dp vs g h1 h2 h3 h4)
 |xJ f dp vs g h1 h2 h3 h4=>exact one _ _ rfl rfl (.xJ f dp vs g h1 h2 h3 h4)
structure lx (P:Program) (w:World) (D:Nat->Prop) (ι:Names) (B:sU) (r:Row):Prop where
 sz:B.sz=r.sz
 yD:∃cells T,w.heap[B.b]? =some (.cells cells T (0,0))/\cells.size=B.C
 fits:r.rows.length*r.sz<=B.C
 len:∀cs∈r.rows,cs.length=r.sz
 flat:∀cs∈r.rows,∀a∈cs,a.cell=true
 at_:∀i j cs a,r.rows[i]? =some cs->cs[j]? =some a->∃v,w.cell? ⟨B.b,i*r.sz+j,none⟩=some v/\cN P w D ι a v
def OH (es:Array MapEntry) (clock:Nat):Prop:=(∀x∈es.toList,x.born<clock)/\(es.toList.map (·.born)).Nodup
def NN (P:Program) (w:World) (D:Nat->Prop) (ι:Names) (B:sU) (m:MK) (r:Row):Prop:=
 ∃(es:Array MapEntry) (clock:Nat),w.heap[B.b]? =some (.map es clock)/\es.size=r.rows.length/\((∀cs∈r.rows,cs.length=m.ks+1)/\OH es clock)/\
  ∀(i:Nat) (cs:List AV),r.rows[i]? =some cs->∃(e:MapEntry) (kv vv:AV),es[i]? =some e/\part m.ka m.ks cs=some kv/\cs[m.ks]? =some vv/\cN P w D ι kv e.key/\cN P w D ι vv e.val
def Iz (P:Program) (w:World) (D:Nat->Prop) (ι:Names) (B:sU) (c:Nat) (r:Row):Prop:=
 ∃(buf:Array Value) (s q:Nat),w.heap[B.b]? =some (.chan c buf false s q false)/\buf.size=r.rows.length/\
  ∀(i:Nat) (cs:List AV),r.rows[i]? =some cs->∃(a:AV) (u:Value),cs=[a]/\buf[i]? =some u/\cN P w D ι a u
structure iR (P:Program) (w:World) (D:Nat->Prop) (ι:Names) (B:sU) (r:Row):Prop where
 sz:B.sz=r.sz
 flat:∀cs∈r.rows,∀a∈cs,a.cell=true
 row:B.k=none->lx P w D ι B r
 map:∀m,B.k=some (.map m)->r.sz=m.AM/\NN P w D ι B m r
 chan:∀c,B.k=some (.chan c)->r.sz=rW+c/\Iz P w D ι B c r
theorem lx.obj {B:sU} {r:Row} (R:lx P w D ι B r) (h:B.k=none):iR P w D ι B r:=⟨R.sz,R.flat,fun _=>R,fun m hm=>(by rw[h]at hm;cases hm),fun m hm=>by rw[h]at hm;cases hm⟩
theorem iR.flag {B:sU} {r:Row} (R:iR P w D ι B r) (b:Bool):iR P w D ι B {r with w:=b}:=⟨R.sz,R.flat,fun h=>⟨R.sz,(R.row h).yD,(R.row h).fits,(R.row h).len,R.flat,(R.row h).at_⟩,R.map,R.chan⟩
theorem iR.M3 {B:sU} {r:Row} (R:iR P w D ι B r) {c:Array Value} {T:TypeId} {z:Nat×Nat} (h:w.heap[B.b]? =some (.cells c T z)):B.k=none:=by
 cases hk:B.k with
 |none=>rfl
 |some m=>
  cases m with
  |map m=>obtain⟨_,es,c,h3,_⟩:=R.map m hk;rw[h]at h3;cases h3
  |chan c=>obtain⟨_,buf,s,q,h3,_⟩:=R.chan c hk;rw[h]at h3;cases h3
theorem iR.lt {B:sU} {r:Row} (R:iR P w D ι B r):B.b<w.heap.size:=by
 cases h:B.k with
 |none=>
  obtain⟨c,T,h3,_⟩:=(R.row h).yD
  exact(Array.getElem?_eq_some_iff.1 h3).1
 |some m=>
  cases m with
  |map m=>obtain⟨_,es,c,h3,_⟩:=R.map m h;exact(Array.getElem?_eq_some_iff.1 h3).1
  |chan c=>obtain⟨_,buf,s,q,h3,_⟩:=R.chan c h;exact(Array.getElem?_eq_some_iff.1 h3).1
structure gK (P:Program) (hs:Nat) (D:Nat->Prop) (ι:Names) (g:Rows) (w:World):Prop where
 lo:hs<=w.heap.size
 dead:∀b,D b->b<w.heap.size
 row:∀id r,g id=some r->∃B,ι id=some B/\iR P w D ι B r/\(r.w=true->hs<=B.b)/\(r.w=true->¬D B.b)
 inj:∀id kS r r' B B',g id=some r->g kS=some r'->r.w=true->ι id=some B->ι kS=some B'->B.b=B'.b->id=kS
def Used (ι:Names) (n:Nat) (U:Nat->Prop):Prop:=∀id,ι id≠none->id.cC<n∨(id.cC=n/\U id.site)
structure Step (hs:Nat) (D:Nat->Prop) (ι:Names) (w:World) (D':Nat->Prop) (ι':Names) (w':World):Prop where
 below:Below hs w w'
 tx:∀b,D b->w'.heap[b]? =w.heap[b]?
 dead:∀b,D b->D' b
 names:∀id B,ι id=some B->ι' id=some B
 new:∀b,D' b->D b∨hs<=b
theorem Step.refl (hs:Nat) (D:Nat->Prop) (ι:Names) (w:World):Step hs D ι w D ι w:=⟨Below.refl _ _,fun _ _=>rfl,fun _ h=>h,fun _ _ h=>h,fun _ h=>.inl h⟩
theorem Step.trans {hs:Nat} {D D' D'':Nat->Prop} {ι ι' TR:Names} {w w' Ia:World} (h:Step hs D ι w D' ι' w') (k:Step hs D' ι' w' D'' TR Ia):Step hs D ι w D'' TR Ia:=
 ⟨h.below.trans k.below,fun b hb=>(k.tx b (h.dead b hb)).trans (h.tx b hb),fun b hb=>k.dead b (h.dead b hb),fun id B hB=>k.names id B (h.names id B hB),fun b hb=>by
  rcases k.new b hb with hb|hb
  ·exact h.new b hb
  ·exact .inr hb⟩
theorem Step.rep {hs:Nat} {D D':Nat->Prop} {ι ι':Names} {w w':World} (h:Step hs D ι w D' ι' w') {a:AV} {v:Value} (hr:cN P w D ι a v):cN P w' D' ι' a v:=hr.frame h.tx h.dead h.names
theorem dn {k n} {v:Value} (h:cN P w D ι (.int k n) v):v=.int k n:=by
 cases h with
 |eO _ _ h=>cases h;rfl
theorem fa {b} {v:Value} (h:cN P w D ι (.bool b) v):v=.bool b:=by
 cases h with
 |eO _ _ h=>cases h;rfl
theorem fQ {s} {v:Value} (h:cN P w D ι (.str s) v):v=.string s:=by
 cases h with
 |eO _ _ h=>cases h;rfl
theorem jZ {v:Value} (h:cN P w D ι .ck v):v=.slice none 0 0:=by
 cases h with
 |eO _ _ h=>cases h;rfl
theorem w9 {v:Value} (h:cN P w D ι .jX v):v=.nilFunc:=by
 cases h with
 |eO _ _ h=>cases h;rfl
theorem gM {cs} {v:Value} (h:cN P w D ι (.agg cs) v):∃(vs:Array Value) (f:Nat->Value),v=.agg vs/\vs.size=cs.length/\(∀a∈cs,a.cell=true)/\(∀j,j<cs.length->vs[j]? =some (f j))/\∀j a,cs[j]? =some a->cN P w D ι a (f j):=by
 cases h with
 |eO _ _ h=>
  cases h with
  |agg cs vs f h1 h2 h3 h4=>exact⟨vs,f,rfl,h1,h2,h3,fun j a h=>.eO _ _ (h4 j a h)⟩
 |agg cs vs f h1 h2 h3 h4=>exact⟨vs,f,rfl,h1,h2,h3,h4⟩
theorem vn {cs} {v:Value} (h:cN P w D ι (.iJ cs) v):∃(vs:Array Value) (f:Nat->Value),v=.tuple vs/\vs.size=cs.length/\(∀j,j<cs.length->vs[j]? =some (f j))/\∀j a,cs[j]? =some a->cN P w D ι a (f j):=by
 cases h with
 |eO _ _ h=>cases h
 |iJ cs vs f h1 h2 h3=>exact⟨vs,f,rfl,h1,h2,h3⟩
theorem w7 {f dp} {v:Value} (h:cN P w D ι (.fn f dp) v):∃(vs:Array Value) (g:Nat->Value),v=.func (.func f) #[] vs/\fY P f=true/\vs.size=dp.length/\(∀j,j<dp.length->vs[j]? =some (g j))/\∀j a,dp[j]? =some a->cN P w D ι a (g j):=by
 cases h with
 |eO _ _ h=>
  cases h with
  |fn f dp vs g h1 h2 h3 h4=>exact⟨vs,g,rfl,h1,h2,h3,fun j a h=>.eO _ _ (h4 j a h)⟩
 |fn f dp vs g h1 h2 h3 h4=>exact⟨vs,g,rfl,h1,h2,h3,h4⟩
theorem Kv {v:Value} (h:cN P w D ι .iI v):v=.pointer none:=by
 cases h with
 |eO _ _ h=>cases h;rfl
theorem C0 {v:Value} (h:cN P w D ι .j9 v):v=.map none:=by
 cases h with
 |eO _ _ h=>cases h;rfl
theorem Nn {f dp} {v:Value} (h:cN P w D ι (.xJ f dp) v):∃(vs:Array Value) (g:Nat->Value),v=.func (.func f) vs #[]/\fY P f=true/\vs.size=dp.length/\(∀j,j<dp.length->vs[j]? =some (g j))/\∀j a,dp[j]? =some a->cN P w D ι a (g j):=by
 cases h with
 |eO _ _ h=>cases h
 |xJ f dp vs g h1 h2 h3 h4=>exact⟨vs,g,rfl,h1,h2,h3,h4⟩
theorem jx {id off len} {v:Value} (h:cN P w D ι (.own id off len) v):∃o cap B,v=.slice (some ⟨B.b,o,none⟩) len cap/\ι id=some B/\len<=cap/\(cap=0∨o=off*B.sz)/\(off+cap)*B.sz<=B.C/\cap<=maxLen/\B.k=none:=by
 cases h with
 |eO _ _ h=>cases h
 |own id off len o cap B h1 h2 h3 h4 h5 h6=>exact⟨o,cap,B,rfl,h1,h3,h4,h5,h6,h2⟩
theorem ji {id i off} {v:Value} (h:cN P w D ι (.ptr id i off) v):∃B,v=.pointer (some ⟨B.b,i*B.sz+off,none⟩)/\ι id=some B/\B.k=none:=by
 cases h with
 |eO _ _ h=>cases h
 |ptr id i off B h1 h2=>exact⟨B,rfl,h1,h2⟩
theorem Nj {id} {v:Value} (h:cN P w D ι (.s8 id) v):∃B c,v=.chan (some B.b)/\ι id=some B/\B.k=some (.chan c):=by
 cases h with
 |eO _ _ h=>cases h
 |s8 id c B h1 h2=>exact⟨B,c,rfl,h1,h2⟩
theorem Nl {id m} {v:Value} (h:cN P w D ι (.map id m) v):∃B,v=.map (some B.b)/\ι id=some B/\B.k=some (.map m):=by
 cases h with
 |eO _ _ h=>cases h
 |map id m B h1 h2=>exact⟨B,rfl,h1,h2⟩
theorem lL {cs} {v:Value} (h:cN P w D ι (.dq cs) v):∃b o,∃vs:Nat->Value,v=.pointer (some ⟨b,o,none⟩)/\D b/\(∀a∈cs,a.cell=true)/\(∀j,j<cs.length->w.cell? ⟨b,o+j,none⟩=some (vs j))/\∀j a,cs[j]? =some a->ja P w D a (vs j):=by
 cases h with
 |eO _ _ h=>
  cases h with
  |dq cs b o vs h1 h2 h3 h4=>exact⟨b,o,vs,rfl,h1,h2,h3,h4⟩
theorem xb {rows} {v:Value} (h:cN P w D ι (.sl rows) v):∃A c,v=.slice A rows.length c/\rows.length<=c/\c<=maxLen/\
  (rows=[]∨∃b o sz,∃vs:Nat->Nat->Value,A=some ⟨b,o,none⟩/\D b/\(∀cs∈rows,cs.length=sz)/\(∀cs∈rows,∀a∈cs,a.cell=true)/\
   (∀i j,i<rows.length->j<sz->w.cell? ⟨b,o+(i*sz+j),none⟩=some (vs i j))/\∀i j cs a,rows[i]? =some cs->cs[j]? =some a->ja P w D a (vs i j)):=by
 cases h with
 |eO _ _ h=>
  cases h with
  |Dw a c h=>exact⟨a,c,rfl,Nat.zero_le _,h,.inl rfl⟩
  |sl rows b o n c sz vs h1 h2 h3 h4 h5 h5' h6 h7=>subst h1;exact⟨_,c,rfl,h2,h3,.inr ⟨b,o,sz,vs,rfl,h4,h5,h5',h6,h7⟩⟩
inductive eZ:AV->Prop
 |int (k n):eZ (.int k n)
 |bool (b):eZ (.bool b)
 |str (s):eZ (.str s)
 |ck:eZ .ck
 |iI:eZ .iI
 |jX:eZ .jX
 |sl (rows):rows.length<=maxLen->(∀cs∈rows,∀a∈cs,eZ a)->eZ (.sl rows)
 |own (id off len):eZ (.own id off len)
 |ptr (id i off):eZ (.ptr id i off)
 |dq (cs):(∀a∈cs,eZ a)->eZ (.dq cs)
 |agg (cs):(∀a∈cs,eZ a)->eZ (.agg cs)
 |iJ (cs):(∀a∈cs,eZ a)->eZ (.iJ cs)
 |fn (f dp):(∀a∈dp,eZ a)->eZ (.fn f dp)
 |map (id m):eZ (.map id m)
 |s8 (id):eZ (.s8 id)
 |j9:eZ .j9
 |xJ (f dp):(∀a∈dp,eZ a)->eZ (.xJ f dp)
theorem eZ.len {rows:List (List AV)} (h:eZ (.sl rows)):rows.length<=9223372036854775807:=by
 cases h with
 |sl _ h _=>unfold maxLen at h;omega
theorem eZ.OL {cs:List AV} (h:eZ (.agg cs)) {a:AV} (ha:a∈cs):eZ a:=by
 cases h with
 |agg _ h=>exact h a ha
theorem eZ.Ct {cs:List AV} (h:eZ (.dq cs)) {a:AV} (ha:a∈cs):eZ a:=by
 cases h with
 |dq _ h=>exact h a ha
theorem pw {l:List AV} {p:AV->Prop} (h:∀(j:Nat) (a:AV),l[j]? =some a->p a):∀a∈l,p a:=fun a ha=>by
 obtain⟨j,hj,rfl⟩:=List.getElem_of_mem ha
 exact h j _ (List.getElem?_eq_getElem hj)
theorem ja.J0 {a:AV} {v:Value} (h:ja P w D a v):eZ a:=by
 induction h with
 |int k n=>exact .int k n
 |bool b=>exact .bool b
 |str s=>exact .str s
 |ck=>exact .ck
 |iI=>exact .iI
 |jX=>exact .jX
 |j9=>exact .j9
 |Dw a c h=>exact .sl [] (Nat.zero_le _) (fun cs h=>by cases h)
 |sl rows b o n c sz vs h1 h2 h3 h4 h5 h5' h6 _ ih=>
  exact .sl rows ae fun cs dy a ha=>by
   obtain⟨i,hi,rfl⟩:=List.getElem_of_mem dy
   obtain⟨j,hj,rfl⟩:=List.getElem_of_mem ha
   exact ih i j _ _ (List.getElem?_eq_getElem hi) (List.getElem?_eq_getElem hj)
 |dq cs b o vs h1 Sc h2 _ ih=>exact .dq cs (pw ih)
 |agg cs vs f h1 h2 h3 _ ih=>exact .agg cs (pw ih)
 |fn f dp vs g h1 h2 h3 _ ih=>exact .fn f dp (pw ih)
theorem cN.J0 {a:AV} {v:Value} (h:cN P w D ι a v):eZ a:=by
 induction h with
 |eO a v h=>exact h.J0
 |own id off len o cap B=>exact .own _ _ _
 |ptr id i off B=>exact .ptr _ _ _
 |map id m B=>exact .map _ _
 |s8 id c B=>exact .s8 _
 |agg cs vs f h1 h2 h3 _ ih=>exact .agg cs (pw ih)
 |iJ cs vs f h1 h2 _ ih=>exact .iJ cs (pw ih)
 |fn f dp vs g h1 h2 h3 _ ih=>exact .fn f dp (pw ih)
 |xJ f dp vs g h1 h2 h3 _ ih=>exact .xJ f dp (pw ih)
end Go.Proofs.YtkbipfflibjfbaaGreat.V

namespace Go.Proofs.YtkbipfflibjfbaaGreat.V
open Go.RowKit
variable {P:Program} {w w':World} {D D':Nat->Prop} {ι ι':Names}
def cE (P:Program) (w:World) (D:Nat->Prop) (ι:Names) (env:Env) (a:Act):Prop:=∀t,cN P w D ι (env t) (a.tmps.getD t undef)
theorem sj {vs:List Value} {cs:List K} (h:vs.mapM Hm=some cs):cs.length=vs.length/\∀(j:Nat) (c:K),cs[j]? =some c->vs[j]? =some c.val:=by
 induction vs generalizing cs with
 |nil=>simp at h;subst h;simp
 |cons v r ih=>
  simp only[List.mapM_cons,Option.bind_eq_bind,Option.bind_eq_some_iff]at h
  obtain⟨c,hc,mM,dy,h⟩:=h
  simp at h;subst h
  obtain⟨h1,h2⟩:=ih dy
  refine⟨by simp[h1],fun j d hd=>?_⟩
  cases j with
  |zero=>simp at hd ⊢;subst hd;exact Ao hc
  |succ j=>simp at hd ⊢;exact h2 j d hd
theorem Wi {vs:List Value} {cs:List K} (h:vs.mapM Hm=some cs):cN P w D ι (.agg (cs.map K.av)) (.agg vs.toArray):=by
 obtain⟨h1,h2⟩:=sj h
 refine .agg _ _ (fun j=>vs.getD j undef) (by simp[h1]) (fun a ha=>?_) (fun j hj=>?_) (fun j a ha=>?_)
 ·obtain⟨c,_,rfl⟩:=List.mem_map.1 ha;exact c.nG
 ·simp at hj;simp[List.getElem?_eq_getElem (show j<vs.length by omega)]
 ·simp only[List.getElem?_map,Option.map_eq_some_iff]at ha
  obtain⟨c,hc,rfl⟩:=ha
  rw[List.getD_eq_getElem?_getD,h2 j c hc];exact w8 c
theorem dv {env:Env} {a:Act} {x:Operand} {y:O} (E:cE P w D ι env a) (h:cO P x=some y):cN P w D ι (dh env y) (a.eval x):=by
 unfold cO at h
 split at h
 ·simp at h;subst h;exact E _
 ·simp only[Option.map_eq_some_iff]at h
  obtain⟨cs,dy,rfl⟩:=h
  have:=Wi (P:=P) (w:=w) (D:=D) (ι:=ι) dy
  simpa[Act.eval,dh]using this
 ·simp only[Option.map_eq_some_iff]at h
  obtain⟨c,hc,rfl⟩:=h
  simp only[Act.eval,dh]
  rw[Ao hc];exact w8 c
 ·simp at h
 ·split at h
  ·rename_i hc
   simp at h;subst h
   simp only[Act.eval,dh]
   exact .fn _ _ _ (fun _=>undef) hc rfl (fun j hj=>by simp at hj) (fun j a h=>by simp at h)
  ·simp at h
def oV (P:Program) (a:Act) (o:Oper) (w:World) (D:Nat->Prop) (ι:Names) (v:AV):Prop:=∃u,(execOp a.eval o).run P w=.ok (.value u) w/\cN P w D ι v u
section
variable {g:Rows} {hs:Nat} {env:Env} {a:Act} {o:Oper} {id:Id} {v:AV}
theorem OC {x:Operand} {y:O} (E:cE P w D ι env a) (ho:o.op=.move x∨o.op=.assign x) (hx:cO P x=some y):oV P a o w D ι (dh env y):=by
 refine⟨a.eval x,?_,dv E hx⟩
 rcases ho with h|h<;>simp[execOp,h,go_sem]
theorem QV {c x y:Operand} {c' x' y':O} (E:cE P w D ι env a) (ho:o.op=.pick c x y) (hc:cO P c=some c') (hx:cO P x=some x') (hy:cO P y=some y') (hv:dc (dh env c') (dh env x') (dh env y')=some v):oV P a o w D ι v:=by
 unfold dc at hv
 split at hv
 ·rename_i b hb
  simp at hv;subst hv
  have h1:=fa (hb▸dv E hc)
  refine⟨if b then a.eval x else a.eval y,by simp only[execOp,ho,h1,asBool];rfl,?_⟩
  cases b
  ·exact dv E hy
  ·exact dv E hx
 ·simp at hv
theorem TG {op:BinOp} {x y:Operand} {x' y':O} {t yt:TypeId} (E:cE P w D ι env a) (ho:o.op=.binOp op t x y yt) (he:op≠.eql) (hn:op≠.neq) (hx:cO P x=some x') (hy:cO P y=some y') (hv:ek op (dh env x') (dh env y')=some v):oV P a o w D ι v:=by
 unfold ek at hv
 split at hv
 ·rename_i k n k' m hb tf
  split at hv
  ·rename_i hk
   subst hk
   have h1:=dn (hb▸dv E hx)
   have h2:=dn (tf▸dv E hy)
   have key:∀u,(binOp op t (.int k n) (.int k m)).run P w=.ok u w->(execOp a.eval o).run P w=.ok (.value u) w:=fun u hu=>by
    have e0:eqGuard op t x y (.int k n) (.int k m)=pure ():=by unfold eqGuard;cases op<;>rfl
    simp only[execOp,ho,h1,h2,e0]
    simp[go_sem,hu]
   cases op<;>simp only[dI]at hv<;>(try(simp at hv;done))<;>(try split at hv)<;>(try(simp at hv;done))<;>simp only[Option.some.injEq]at hv<;>subst hv<;>
    (refine⟨_,key _ (by simp only[binOp,ne_eq,not_true_eq_false,if_false,Op.intArith,Op.intDiv,Op.intBits,Op.intCmp, *];rfl),?_⟩)<;>
    first
     |exact .eO _ _ (.int _ _)
     |exact .eO _ _ (.bool _)
  ·simp at hv
 ·simp at hv
theorem QH {op:BinOp} {x y:Operand} {x' y':O} {t yt:TypeId} (E:cE P w D ι env a) (ho:o.op=.binOp op t x y yt) (he:op≠.eql) (hn:op≠.neq) (hx:cO P x=some x') (hy:cO P y=some y') (hv:de op (dh env x') (dh env y')=some v):oV P a o w D ι v:=by
 unfold de at hv
 split at hv
 ·rename_i n m hb tf
  have h1:=fQ (hb▸dv E hx)
  have h2:=fQ (tf▸dv E hy)
  cases op<;>simp only[eD]at hv<;>(try(simp at hv;done))
  case add=>
   split at hv
   ·rename_i hl
    simp only[Option.some.injEq]at hv;subst hv
    exact⟨_,by simp only[execOp,ho,h1,h2];simp[eqGuard,binOp,go_sem];exact hl,.eO _ _ (.str _)⟩
   ·simp at hv
  all_goals
   simp only[Option.some.injEq]at hv;subst hv
   exact⟨_,by simp only[execOp,ho,h1,h2];simp[eqGuard,binOp,Op.stringOp,go_sem],.eO _ _ (.bool _)⟩
 ·simp at hv
theorem Gi (n m:ByteArray):(n.toList==m.toList)=decide (n=m):=by
 rw[ByteArray.toList_eq,ByteArray.toList_eq]
 by_cases h:n=m
 ·subst h;simp
 ·have:n.data.toList≠m.data.toList:=fun he=>h (ByteArray.ext (Array.ext' he))
  rw[decide_eq_false h];exact beq_eq_false_iff_ne.2 this
theorem p7 {t:TypeId} (h:fF P t=some .tB):P.underlying t=some .bool:=by unfold fF at h;split at h<;>simp_all
theorem p9 {t:TypeId} (h:fF P t=some .tI):∃k,P.underlying t=some (.int k):=by unfold fF at h;split at h<;>simp_all
theorem qa {t:TypeId} (h:fF P t=some .tS):P.underlying t=some .string:=by unfold fF at h;split at h<;>simp_all
theorem sw {d:Nat} {t:TypeId} {s:TS} {x y:AV} {u u':Value} {b:Bool} (hx:cN P w D ι x u) (hy:cN P w D ι y u') (hv:gj s x y=some b) (ht:fF P t=some s):(Op.equalIn (d+1) t u u').run P w=.ok b w:=by
 unfold gj at hv
 split at hv
 ·rename_i k n k' m
  split at hv
  ·rename_i hk
   subst hk
   simp at hv;subst hv
   obtain⟨q,hq⟩:=p9 ht
   rw[dn hx,dn hy,run_equalIn_int _ _ _ _ _ _ _ hq];rfl
  ·simp at hv
 ·simp at hv;subst hv
  rw[fa hx,fa hy,run_equalIn_bool' _ _ _ _ _ (p7 ht)]
 ·simp at hv;subst hv
  rw[fQ hx,fQ hy,run_equalIn_string _ _ _ _ _ (qa ht),Gi]
 ·simp at hv
def fc (P:Program) (w:World) (D:Nat->Prop) (ι:Names) (xs:List AV) (vs:Array Value):Prop:=vs.size=xs.length/\∀(j:Nat) (a:AV),xs[j]? =some a->∃u,vs[j]? =some u/\cN P w D ι a u
theorem fc.part {xs:List AV} {vs:Array Value} (h:fc P w D ι xs vs) (off n:Nat) (hn:off+n<=xs.length):fc P w D ι ((xs.drop off).take n) (vs.extract off (off+n)):=by
 refine⟨by simp[h.1];omega,fun j a ha=>?_⟩
 rw[List.getElem?_take]at ha
 split at ha
 ·rename_i hj
  rw[List.getElem?_drop]at ha
  obtain⟨u,h1,h2⟩:=h.2 _ _ ha
  refine⟨u,?_,h2⟩
  rw[Array.getElem?_extract]
  rw[if_pos (by rw[h.1];omega),h1]
 ·simp at ha
theorem rX:∀{ts:List TS} {xs ys:List AV} {b:Bool},fq ts xs ys=some b->xs.length=ts.length/\ys.length=ts.length
 |[],[],[],_,_=>⟨rfl,rfl⟩
 |t::ts,x::xs,y::ys,b,h=>by
  unfold fq at h
  split at h
  ·rename_i c d h1 h2
   have:=rX h2
   simp[this.1,this.2]
  ·simp at h
 |[],[],_::_,_,h=>by simp[fq]at h
 |[],_::_,_,_,h=>by simp[fq]at h
 |_::_,[],_,_,h=>by simp[fq]at h
 |_::_,_::_,[],_,h=>by simp[fq]at h
theorem FM:∀{ts us:List TS} {xs ys:List AV} {b:Bool},fq (ts++us) xs ys=some b->∃c d,fq ts (xs.take ts.length) (ys.take ts.length)=some c/\fq us (xs.drop ts.length) (ys.drop ts.length)=some d/\b=(c&&d)
 |[],us,xs,ys,b,h=>⟨true,b,by simp[fq],by simpa using h,by simp⟩
 |t::ts,us,x::xs,y::ys,b,h=>by
  simp only[List.cons_append]at h
  unfold fq at h
  split at h
  ·rename_i c d h1 h2
   obtain⟨c',d',h3,h4,rfl⟩:=FM h2
   simp at h;subst h
   exact⟨c&&c',d',by simp[fq,h1,h3],by simpa using h4,by simp[Bool.and_assoc]⟩
  ·simp at h
 |t::ts,us,[],ys,b,h=>by simp[fq]at h
 |t::ts,us,x::xs,[],b,h=>by simp[fq]at h
theorem nz {t:TypeId} {vs:Array Value} {off:Nat} {u:Value} (ha:oG P t=some false) (hu:vs[off]? =some u):(Go.part t vs off).run P w=.ok u w:=by
 unfold oG at ha
 have hi:(isAgg t).run P w=.ok false w:=by
  split at ha<;>simp at ha
  rename_i d h1 h2 hd
  simp only[isAgg,Sem.run_bind,run_underlying hd,Result.andThen_ok]
  cases d<;>simp_all
 simp[Go.part,hi,hu]
theorem tJ {t:TypeId} {b:Bool} (ha:oG P t=some b):(isAgg t).run P w=.ok b w:=by
 unfold oG at ha
 split at ha<;>simp at ha<;>subst ha<;>rename_i hd<;>simp only[isAgg,Sem.run_bind,run_underlying hd,Result.andThen_ok]<;>(try simp)
theorem run_sizeOf {t:TypeId} {n:Nat} (h:eG P t=some n):(sizeOf t).run P w=.ok n w:=by
 unfold eG at h
 simp only[Option.map_eq_some_iff]at h
 obtain⟨i,hi,rfl⟩:=h
 simp[sizeOf,typeInfo,hi]
theorem pZ {t:TypeId} {vs:Array Value} {off n:Nat} (ha:oG P t=some true) (hn:eG P t=some n):(Go.part t vs off).run P w=.ok (.agg (vs.extract off (off+n))) w:=by
 simp[Go.part,tJ ha,run_sizeOf hn]
theorem Jk (d off:Nat):eU P (d+1) off []=some []:=rfl
theorem yQ (d off:Nat) (f:Field) (r:List Field):eU P (d+1) off (f::r)=(if f.offset=off/\f.name≠ "_" then
   match fF P f.type with
   |some t=>if oG P f.type=some false then(eU P (d+1) (off+1) r).map (t::·)else none
   |none=>match P.underlying f.type with
    |some (.struct fs)=>if !P.stoodInHeld f.type then match eU P d 0 fs.toList with
     |some ts=>if eG P f.type=some ts.length/\ts≠[]then(eU P (d+1) (off+ts.length) r).map (ts++·)else none
     |none=>none else none
    |_=>none
  else none):=rfl
theorem sv:∀(d:Nat) (fs:List Field) (off:Nat) (ts:List TS),eU P d off fs=some ts->∀(N:Nat) (_:d<=N) (xs ys:List AV) (vs us:Array Value) (b:Bool),fc P w D ι xs vs->fc P w D ι ys us->
  fq ts ((xs.drop off).take ts.length) ((ys.drop off).take ts.length)=some b->(Op.eqFields (N+1) vs us fs).run P w=.ok b w:=by
 intro d
 induction d with
 |zero=>
  intro fs off ts hf N _ xs ys vs us b _ _ he
  cases fs with
  |nil=>simp[eU]at hf;subst hf;simp[fq]at he;subst he;simp[Op.eqFields]
  |cons f r=>simp[eU]at hf
 |succ d ihd=>
  intro fs
  induction fs with
  |nil=>
   intro off ts hf N _ xs ys vs us b _ _ he
   rw[Jk]at hf;simp at hf;subst hf;simp[fq]at he;subst he;simp[Op.eqFields]
  |cons f r ih=>
   intro off ts hf N hN xs ys vs us b hx hy he
   rw[yQ]at hf
   split at hf
   ·rename_i hcond
    obtain⟨ho,gI⟩:=hcond
    split at hf
    ·rename_i s hs
     split at hf
     ·rename_i uX
      simp only[Option.map_eq_some_iff]at hf
      obtain⟨OA,hr,rfl⟩:=hf
      obtain⟨l1,l2⟩:=rX he
      simp only[List.length_cons,List.length_take,List.length_drop]at l1 l2
      have tp:off<xs.length:=ae
      have hyo:off<ys.length:=ae
      rw[List.drop_eq_getElem_cons tp,List.drop_eq_getElem_cons hyo,List.length_cons,List.take_succ_cons,List.take_succ_cons]at he
      unfold fq at he
      split at he
      ·rename_i c d' h1 h2
       simp at he;subst he
       obtain⟨u,hu,ru⟩:=hx.2 off _ (List.getElem?_eq_getElem tp)
       obtain⟨u',Dt,ru'⟩:=hy.2 off _ (List.getElem?_eq_getElem hyo)
       have:=ih (off+1) OA hr N hN xs ys vs us d' hx hy h2
       simp only[Op.eqFields,if_pos gI,Sem.run_bind,ho,nz uX hu,nz uX Dt,Result.andThen_ok,sw ru ru' h1 hs,Sem.run_ite]
       cases c<;>simp[this]
      ·simp at he
     ·simp at hf
    ·split at hf
     ·rename_i fs' r5
      split at hf
      ·rename_i dR
       split at hf
       ·rename_i ts1 hts1
        split at hf
        ·rename_i fy
         simp only[Option.map_eq_some_iff]at hf
         obtain⟨OA,hr,rfl⟩:=hf
         obtain⟨c,d',h1,h2,rfl⟩:=FM he
         obtain⟨l1,l2⟩:=rX he
         simp only[List.length_append,List.length_take,List.length_drop]at l1 l2
         have uX:oG P f.type=some true:=by simp[oG,r5]
         have je:0<ts1.length:=List.length_pos_iff.2 fy.2
         have Om:off+ts1.length<=xs.length:=ae
         have hy1:off+ts1.length<=ys.length:=ae
         rw[List.drop_take,List.drop_drop,List.drop_take,List.drop_drop]at h2
         rw[List.take_take,List.take_take]at h1
         simp only[List.length_append]at h1 h2
         rw[Nat.min_eq_left ae]at h1
         have e2:ts1.length+OA.length-ts1.length=OA.length:=ae
         rw[e2]at h2
         have:=ih (off+ts1.length) OA hr N hN xs ys vs us d' hx hy h2
         have fB:=ihd fs'.toList 0 ts1 hts1 (N-1) ae _ _ _ _ c (hx.part off ts1.length Om) (hy.part off ts1.length hy1) (by simpa[List.take_take]using h1)
         have hN':N-1+1=N:=ae
         rw[hN']at fB
         have N5:P.fieldsOf f.type=fs':=by simp[Program.fieldsOf,r5]
         simp only[Op.eqFields,if_pos gI,Sem.run_bind,ho,pZ uX fy.1,Result.andThen_ok,Sem.run_ite]
         rw[run_equalIn_struct w N f.type _ _ (by rw[N5];exact r5) (by simpa using dR),N5,fB]
         cases c<;>simp[this]
        ·simp at hf
       ·simp at hf
      ·simp at hf
     ·simp at hf
   ·simp at hf
theorem TK {x y:Operand} {x' y':O} {t yt:TypeId} {neg:Bool} {s:TS} {b:Bool} (E:cE P w D ι env a) (ho:o.op=.binOp (if neg then .neq else .eql) t x y yt) (hs:fF P t=some s) (hx:cO P x=some x') (hy:cO P y=some y')
  (hv:gj s (dh env x') (dh env y')=some b):oV P a o w D ι (.bool (dx neg b)):=by
 have rx:=dv E hx
 have ry:=dv E hy
 refine⟨.bool (dx neg b),?_,.eO _ _ (.bool _)⟩
 have e0:(eqGuard (if neg then .neq else .eql) t x y (a.eval x) (a.eval y)).run P w=.ok () w:=by
  unfold gj at hv
  split at hv
  ·rename_i k n k' m h1 h2
   rw[h1]at rx;rw[h2]at ry
   rw[dn rx,dn ry];unfold eqGuard;cases neg<;>simp
  ·rename_i n m h1 h2
   rw[h1]at rx;rw[h2]at ry
   rw[fa rx,fa ry];unfold eqGuard;cases neg<;>simp
  ·rename_i n m h1 h2
   rw[h1]at rx;rw[h2]at ry
   rw[fQ rx,fQ ry];unfold eqGuard;cases neg<;>simp
  ·simp at hv
 have e1:(binOp (if neg then .neq else .eql) t (a.eval x) (a.eval y)).run P w=.ok (.bool (dx neg b)) w:=by
  have q:=sw (d:=9999) rx ry hv hs
  unfold gj at hv
  split at hv
  ·rename_i k n k' m h1 h2
   split at hv
   ·rename_i hk
    subst hk
    simp at hv;subst hv
    rw[h1]at rx;rw[h2]at ry
    rw[dn rx,dn ry]
    cases neg<;>simp only[binOp,ne_eq,not_true_eq_false,if_false,Op.intCmp,dx,if_true,Bool.false_eq_true]<;>simp[bne]<;>rfl
   ·simp at hv
  ·rename_i n m h1 h2
   rw[h1]at rx;rw[h2]at ry
   rw[fa rx,fa ry]at q ⊢
   cases neg<;>simp only[binOp,dx,if_true,Bool.false_eq_true,if_false,Sem.run_bind]<;>simp[Op.equal,Op.maxDepth,q]
  ·rename_i n m h1 h2
   simp at hv;subst hv
   rw[h1]at rx;rw[h2]at ry
   rw[fQ rx,fQ ry]
   cases neg<;>simp[binOp,Op.stringOp,dx,Gi]
  ·simp at hv
 simp only[execOp,ho,Sem.run_bind,e0,e1,Result.andThen_ok,Sem.run_pure]
theorem TI {x y:Operand} {x' y':O} {t yt:TypeId} {neg:Bool} {ts:List TS} {fs:Array Field} {xs ys:List AV} {b:Bool} (E:cE P w D ι env a) (ho:o.op=.binOp (if neg then .neq else .eql) t x y yt) (r5:P.underlying t=some (.struct fs)) (dR:P.stoodInHeld t=false) (Im:P.eqGuardType P.depth t=false)
  (xZ:eU P 4 0 fs.toList=some ts) (hx:cO P x=some x') (hy:cO P y=some y') (h1:dh env x'=.agg xs) (h2:dh env y'=.agg ys)
  (hv:fq ts xs ys=some b):oV P a o w D ι (.bool (dx neg b)):=by
 obtain⟨vs,f,rx,n1,_,f1,r1⟩:=gM (h1▸dv E hx)
 obtain⟨us,f',ry,n2,_,f2,r2⟩:=gM (h2▸dv E hy)
 refine⟨.bool (dx neg b),?_,.eO _ _ (.bool _)⟩
 obtain⟨l1,l2⟩:=rX hv
 have L:∀(xs:List AV) (vs:Array Value) (f:Nat->Value),vs.size=xs.length->(∀j,j<xs.length->vs[j]? =some (f j))->(∀j a,xs[j]? =some a->cN P w D ι a (f j))->fc P w D ι xs vs:=fun xs vs f h1 h2 h3=>
  ⟨h1,fun j a ha=>⟨f j,h2 j (List.getElem?_eq_some_iff.1 ha).1,h3 j a ha⟩⟩
 have q:=sv (w:=w) 4 fs.toList 0 ts xZ 9998 ae xs ys vs us b (L _ _ _ n1 f1 r1) (L _ _ _ n2 f2 r2) (by simpa[List.take_of_length_le,l1,l2]using hv)
 have N5:P.fieldsOf t=fs:=by simp[Program.fieldsOf,r5]
 have q2:(Op.equal t (.agg vs) (.agg us)).run P w=.ok b w:=by
  unfold Op.equal
  rw[show Op.maxDepth=9999+1 from rfl,run_equalIn_struct w 9999 t _ _ (by rw[N5];exact r5) dR,N5,q]
 simp only[execOp,ho,Sem.run_bind,rx,ry,run_eqGuard_agg w _ _ _ _ _ _ Im,Result.andThen_ok]
 cases neg<;>simp[binOp,q2,dx]
theorem QK {x:Operand} {x':O} {t yt e:TypeId} {neg:Bool} {b:Bool} (E:cE P w D ι env a) (ho:o.op=.binOp (if neg then .neq else .eql) t x (.const (.slice none 0 0)) yt) (ht:P.underlying t=some (.slice e)) (hx:cO P x=some x')
  (hv:db (dh env x')=some b):oV P a o w D ι (.bool (dx neg b)):=by
 have hr:=dv E hx
 have rx:∃A n c,a.eval x=.slice A n c/\b=A.isNone:=by
  unfold db at hv
  split at hv<;>simp at hv<;>subst hv<;>rename_i hh
  ·rw[hh]at hr;exact⟨_,_,_,jZ hr,rfl⟩
  ·rw[hh]at hr;obtain⟨o,cap,B,h,_⟩:=jx hr
   exact⟨_,_,_,h,rfl⟩
  ·rw[hh]at hr
   obtain⟨A,c,h',_,_,h⟩:=xb hr
   rcases h with h|⟨b,o,sz,vs,rfl,_⟩
   ·simp at h
   ·exact⟨_,_,_,h',rfl⟩
 refine⟨.bool (dx neg b),?_,.eO _ _ (.bool _)⟩
 obtain⟨A,n,c,h,rfl⟩:=rx
 have hq:(Op.equal t (.slice A n c) (.slice none 0 0)).run P w=.ok A.isNone w:=by
  unfold Op.equal
  rw[show Op.maxDepth=9999+1 from rfl,Op.equalIn]
  simp only[Sem.run_bind,run_underlying ht,Result.andThen_ok]
  cases A<;>rfl
 have hc:a.eval (.const (.slice none 0 0))=.slice none 0 0:=rfl
 simp only[execOp,ho,h,hc]
 cases neg<;>simp only[Bool.false_eq_true,if_false,if_true,Bool.not_true,Bool.not_false,eqGuard,binOp,dx,Sem.run_bind,hq,Result.andThen_ok,Sem.run_pure]
theorem TJ {x:Operand} {x':O} {t yt e:TypeId} {neg:Bool} {b:Bool} (E:cE P w D ι env a) (ho:o.op=.binOp (if neg then .neq else .eql) t x (.const (.pointer none)) yt) (ht:P.underlying t=some (.pointer e)) (hx:cO P x=some x')
  (hv:K2 (dh env x')=some b):oV P a o w D ι (.bool (dx neg b)):=by
 have hr:=dv E hx
 have rx:∃A,a.eval x=.pointer A/\b=A.isNone:=by
  unfold K2 at hv
  split at hv<;>simp at hv<;>subst hv<;>rename_i hh
  ·rw[hh]at hr;exact⟨_,Kv hr,rfl⟩
  ·rw[hh]at hr;obtain⟨B,h,_⟩:=ji hr
   exact⟨_,h,rfl⟩
  ·rw[hh]at hr;obtain⟨_,_,_,h,_⟩:=lL hr
   exact⟨_,h,rfl⟩
 refine⟨.bool (dx neg b),?_,.eO _ _ (.bool _)⟩
 obtain⟨A,h,rfl⟩:=rx
 have hq:(Op.equal t (.pointer A) (.pointer none)).run P w=.ok A.isNone w:=by
  unfold Op.equal
  rw[show Op.maxDepth=9999+1 from rfl,Op.equalIn]
  simp only[Sem.run_bind,run_underlying ht,Result.andThen_ok]
  cases A<;>rfl
 have hc:a.eval (.const (.pointer none))=.pointer none:=rfl
 simp only[execOp,ho,h,hc]
 cases neg<;>simp only[Bool.false_eq_true,if_false,if_true,Bool.not_true,Bool.not_false,eqGuard,binOp,dx,Sem.run_bind,hq,Result.andThen_ok,Sem.run_pure]
theorem QJ {x:Operand} {x':O} {t yt:TypeId} {p r:Array TypeId} {va:Bool} {neg:Bool} {b:Bool} (E:cE P w D ι env a) (ho:o.op=.binOp (if neg then .neq else .eql) t x (.const .nilFunc) yt) (ht:P.underlying t=some (.func p r va)) (hx:cO P x=some x')
  (hv:da (dh env x')=some b):oV P a o w D ι (.bool (dx neg b)):=by
 have hr:=dv E hx
 have rx:a.eval x=.nilFunc/\b=true∨∃f c,a.eval x=.func f #[] c/\b=false:=by
  unfold da at hv
  split at hv<;>simp at hv<;>subst hv<;>rename_i hh
  ·rw[hh]at hr;exact .inl ⟨w9 hr,rfl⟩
  ·rw[hh]at hr;obtain⟨vs,g,h,_⟩:=w7 hr
   exact .inr ⟨_,_,h,rfl⟩
 refine⟨.bool (dx neg b),?_,.eO _ _ (.bool _)⟩
 have hc:a.eval (.const .nilFunc)=.nilFunc:=rfl
 rcases rx with⟨h,rfl⟩|⟨f,c,h,rfl⟩
 ·have hq:(Op.equal t .nilFunc .nilFunc).run P w=.ok true w:=by
   unfold Op.equal
   rw[show Op.maxDepth=9999+1 from rfl,Op.equalIn]
   simp only[Sem.run_bind,run_underlying ht,Result.andThen_ok]
   rfl
  simp only[execOp,ho,h,hc]
  cases neg<;>simp only[Bool.false_eq_true,if_false,if_true,Bool.not_true,Bool.not_false,eqGuard,binOp,dx,Sem.run_bind,hq,Result.andThen_ok,Sem.run_pure]
 ·have hq:(Op.equal t (.func f #[] c) .nilFunc).run P w=.ok false w:=by
   unfold Op.equal
   rw[show Op.maxDepth=9999+1 from rfl,Op.equalIn]
   simp only[Sem.run_bind,run_underlying ht,Result.andThen_ok]
   rfl
  simp only[execOp,ho,h,hc]
  cases neg<;>simp only[Bool.false_eq_true,if_false,if_true,Bool.not_true,Bool.not_false,eqGuard,binOp,dx,Sem.run_bind,hq,Result.andThen_ok,Sem.run_pure]
theorem TN {x:Operand} {x':O} {t:TypeId} (E:cE P w D ι env a) (ho:o.op=.unOp .not t x) (hx:cO P x=some x') (hv:ez (dh env x')=some v):oV P a o w D ι v:=by
 have hr:=dv E hx
 unfold ez at hv
 split at hv
 ·rename_i b hb
  simp at hv;subst hv
  rw[hb]at hr
  exact⟨_,by simp only[execOp,ho,fa hr];rfl,.eO _ _ (.bool _)⟩
 ·simp at hv
theorem TM {x:Operand} {x':O} {t:TypeId} (E:cE P w D ι env a) (ho:o.op=.unOp .neg t x) (hx:cO P x=some x') (hv:eu (dh env x')=some v):oV P a o w D ι v:=by
 have hr:=dv E hx
 unfold eu at hv
 split at hv
 ·rename_i k n hb
  simp at hv;subst hv
  rw[hb]at hr
  refine⟨_,by simp only[execOp,ho,dn hr];rfl,?_⟩
  rw[Int.zero_sub];exact .eO _ _ (.int _ _)
 ·simp at hv
theorem QI {x:Operand} {x':O} {s d:TypeId} {k q:IntKind} (E:cE P w D ι env a) (ho:o.op=.convert s d x) (hs:P.underlying s=some (.int q)) (hd:P.underlying d=some (.int k)) (hx:cO P x=some x') (hv:cR k (dh env x')=some v):oV P a o w D ι v:=by
 have hr:=dv E hx
 unfold cR at hv
 split at hv
 ·rename_i k' n hb
  simp at hv;subst hv
  rw[hb]at hr
  refine⟨.int k (k.wrap n),?_,.eO _ _ (.int _ _)⟩
  simp only[execOp,ho,dn hr,convert,Sem.run_bind,run_underlying hs,run_underlying hd,Result.andThen_ok,Conv.intToInt,Sem.run_pure]
 ·simp at hv
theorem NH {x:Operand} {x':O} {s:TypeId} {i:Nat} {fs:Array Field} {f:Field} {m:Nat} (E:cE P w D ι env a) (ho:o.op=.fieldAddr s x i) (hs:P.underlying s=some (.struct fs)) (hf:fs[i]? =some f) (hm:eG P f.type=some (m+1)) (hx:cO P x=some x')
  (hv:Fv f.offset (dh env x')=some v):oV P a o w D ι v:=by
 have hr:=dv E hx
 have go:∀b oo,a.eval x=.pointer (some ⟨b,oo,none⟩)->(execOp a.eval o).run P w=.ok (.value (.pointer (some ⟨b,oo+f.offset,none⟩))) w:=fun b oo h=>by
  simp only[execOp,ho,h,Instr.fieldAt,Sem.run_bind,run_underlying hs,Result.andThen_ok,hf,Instr.sureAddr,Sem.run_pure,fieldPlace,run_sizeOf hm,Nat.add_eq_zero_iff,Nat.one_ne_zero,and_false,if_false,Addr.add]
  split
  ·rename_i h0;simp[h0]
  ·rfl
 unfold Fv at hv
 split at hv
 ·rename_i kS i' oo hb
  simp at hv;subst hv
  rw[hb]at hr
  obtain⟨B,h,hB,hk⟩:=ji hr
  refine⟨_,go _ _ h,?_⟩
  rw[Nat.add_assoc]
  exact .ptr _ _ _ _ hB hk
 ·rename_i cs hb
  simp at hv;subst hv
  rw[hb]at hr
  obtain⟨b,oo,vs,h,h1,h2,h3,h4⟩:=lL hr
  refine⟨_,go _ _ h,.eO _ _ (.dq _ _ _ (fun j=>vs (f.offset+j)) h1 (fun a ha=>h2 a (List.mem_of_mem_drop ha)) (fun j hj=>?_) (fun j a ha=>h4 _ _ (by simpa using ha)))⟩
  rw[Nat.add_assoc]
  exact h3 _ (by simp at hj;omega)
 ·simp at hv
theorem NI {x:Operand} {x':O} {s:TypeId} {i n:Nat} {ag:Bool} {fs:Array Field} {f:Field} (E:cE P w D ι env a) (ho:o.op=.field s x i) (hs:P.underlying s=some (.struct fs)) (hf:fs[i]? =some f) (uX:oG P f.type=some ag) (hm:eG P f.type=some n) (hx:cO P x=some x')
  (hv:bP ag f.offset n (dh env x')=some v):oV P a o w D ι v:=by
 have hr:=dv E hx
 unfold bP at hv
 split at hv
 ·rename_i cs hb
  split at hv
  ·rename_i hl
   rw[hb]at hr
   obtain⟨vs,g,h,n1,fl,f1,r1⟩:=gM hr
   unfold part at hv
   cases ag with
   |true=>
    simp only[if_true]at hv
    split at hv
    ·simp at hv;subst hv
     refine⟨.agg (vs.extract f.offset (f.offset+n)),?_,.agg _ _ (fun j=>g (f.offset+j)) (by simp[n1];omega) (fun a ha=>fl a (List.mem_of_mem_drop (List.mem_of_mem_take ha))) (fun j hj=>?_) (fun j a ha=>?_)⟩
     ·simp only[execOp,ho,h,Instr.field,Sem.run_bind,run_underlying hs,Result.andThen_ok,hf,asAgg,Sem.run_pure,pZ uX hm]
     ·simp at hj
      rw[Array.getElem?_extract,if_pos ae];exact f1 _ ae
     ·rw[List.getElem?_take]at ha
      split at ha
      ·exact r1 _ _ (by simpa using ha)
      ·simp at ha
    ·simp at hv
   |false=>
    simp only[Bool.false_eq_true,if_false]at hv
    have oI:cs[f.offset]? =some v:=by simpa[List.head?_drop]using hv
    have dO:=(List.getElem?_eq_some_iff.1 oI).1
    exact⟨g f.offset,by simp only[execOp,ho,h,Instr.field,Sem.run_bind,run_underlying hs,Result.andThen_ok,hf,asAgg,Sem.run_pure,nz uX (f1 _ dO)],r1 _ _ oI⟩
  ·simp at hv
 ·simp at hv
theorem TP {left:Bool} {x y:Operand} {x' y':O} {t yt:TypeId} (E:cE P w D ι env a) (ho:o.op=.binOp (if left then .shl else .shr) t x y yt) (hx:cO P x=some x') (hy:cO P y=some y') (hv:iq left (dh env x') (dh env y')=some v):oV P a o w D ι v:=by
 unfold iq at hv
 split at hv
 ·rename_i k n k' m hb tf
  split at hv
  ·simp at hv
  ·rename_i hm
   simp at hv;subst hv
   have h1:=dn (hb▸dv E hx)
   have h2:=dn (tf▸dv E hy)
   refine⟨_,?_,.eO _ _ (.int _ _)⟩
   simp only[execOp,ho,h1,h2]
   cases left<;>simp only[Bool.false_eq_true,if_false,if_true,eqGuard,Bool.not_true,Bool.not_false,binOp,Op.shift,hm,Sem.run_bind,Sem.run_pure,Result.andThen_ok]<;>rfl
 ·simp at hv
end
end Go.Proofs.YtkbipfflibjfbaaGreat.V

namespace Go.Proofs.YtkbipfflibjfbaaGreat.V
open Go.RowKit
variable {P:Program} {w w':World} {D D':Nat->Prop} {ι ι':Names}
theorem kU (b o j:Nat):(⟨b,o,none⟩:Addr).add j=⟨b,o+j,none⟩:=by unfold Addr.add;split<;>simp_all
section
variable {g:Rows} {hs:Nat} {env:Env} {a:Act} {o:Oper} {id:Id} {v:AV}
theorem ll {t:TypeId} {ag:Bool} {n b oo:Nat} {cs:List AV} {v:AV} {f:Nat->Value} (uX:oG P t=some ag) (hn:eG P t=some n) (hp:part ag n cs=some v) (fl:∀a∈cs,a.cell=true)
  (hc:∀j,j<cs.length->w.cell? ⟨b,oo+j,none⟩=some (f j)) (hr:∀j a,cs[j]? =some a->cN P w D ι a (f j)):∃u,(loadVar t ⟨b,oo,none⟩).run P w=.ok u w/\cN P w D ι v u:=by
 unfold part at hp
 cases ag with
 |true=>
  simp only[if_true]at hp
  split at hp
  ·rename_i hl
   simp at hp;subst hp
   refine⟨.agg ((List.range n).map f).toArray,?_,.agg _ _ f (by simp;omega) (fun a ha=>fl a (List.mem_of_mem_take ha)) (fun j hj=>?_) (fun j a ha=>?_)⟩
   ·simp only[loadVar,Sem.run_bind,tJ uX,Result.andThen_ok,if_true,run_sizeOf hn,Sem.run_pure]
    rw[run_loadCells w _ n f (fun j hj=>by rw[kU];exact hc j ae)]
    rfl
   ·simp at hj
    have:j<n:=ae
    simp[this]
   ·rw[List.getElem?_take]at ha
    split at ha
    ·exact hr _ _ ha
    ·simp at ha
  ·simp at hp
 |false=>
  simp only[Bool.false_eq_true,if_false]at hp
  cases cs with
  |nil=>simp at hp
  |cons c r=>
   simp at hp;subst hp
   refine⟨f 0,?_,hr 0 _ rfl⟩
   simp only[loadVar,Sem.run_bind,tJ uX,Result.andThen_ok,Bool.false_eq_true,if_false]
   have:=hc 0 (by simp)
   simp at this
   rw[run_load,this]
theorem KC {S:gK P hs D ι g w} {i:Nat} {cs:List AV} (h:rowAt g id i=some cs) (hk:∀B,ι id=some B->B.k=none):∃B r,g id=some r/\ι id=some B/\lx P w D ι B r/\r.rows[i]? =some cs/\(∀a∈cs,a.cell=true)/\∃f:Nat->Value,∀j,j<cs.length->w.cell? ⟨B.b,i*B.sz+j,none⟩=some (f j)/\∀a,cs[j]? =some a->cN P w D ι a (f j):=by
 unfold rowAt at h
 simp only[Option.bind_eq_some_iff]at h
 obtain⟨r,hr,hi⟩:=h
 obtain⟨B,hB,R,_,_⟩:=S.row id r hr
 replace R:=R.row (hk B hB)
 refine⟨B,r,hr,hB,R,hi,R.flat cs (List.mem_of_getElem? hi),fun j=>(w.cell? ⟨B.b,i*B.sz+j,none⟩).getD undef,fun j hj=>?_⟩
 obtain⟨u,hu,xX⟩:=R.at_ i j cs _ hi (List.getElem?_eq_getElem hj)
 rw[R.sz,hu]
 refine⟨by simp only[hu,Option.getD_some],fun a ha=>?_⟩
 rw[List.getElem?_eq_getElem hj]at ha
 injection ha with ha
 subst ha
 simpa only[hu,Option.getD_some]using xX
theorem QQ {x:Operand} {x':O} {t:TypeId} {ag:Bool} {n:Nat} (S:gK P hs D ι g w) (E:cE P w D ι env a) (ho:o.op=.load t x) (uX:oG P t=some ag) (hn:eG P t=some n) (hx:cO P x=some x') (hv:ld g ag n (dh env x')=some v):oV P a o w D ι v:=by
 have hr:=dv E hx
 have go:∀b oo u,a.eval x=.pointer (some ⟨b,oo,none⟩)->(loadVar t ⟨b,oo,none⟩).run P w=.ok u w->(execOp a.eval o).run P w=.ok (.value u) w:=fun b oo u h h2=>by
  simp only[execOp,ho,h,Instr.loadAt,Instr.sureAddr,Sem.run_bind,Sem.run_pure,Result.andThen_ok,h2]
 unfold ld at hv
 split at hv
 ·rename_i kS i' oo hb
  rw[hb]at hr
  obtain⟨B,h,hB,hk⟩:=ji hr
  simp only[Option.bind_eq_some_iff]at hv
  obtain⟨cs,dy,hp⟩:=hv
  obtain⟨B',r,Il,dG,R,hi,fl,f,hf⟩:=KC (S:=S) dy (fun B2 h2=>by rw[hB]at h2;injection h2 with h2;subst h2;exact hk)
  rw[hB]at dG;injection dG with dG;subst dG
  obtain⟨u,h1,h2⟩:=ll (w:=w) (b:=B.b) (oo:=i'*B.sz+oo) (f:=fun j=>f (oo+j)) uX hn hp (fun a ha=>fl a (List.mem_of_mem_drop ha)) (fun j hj=>by
   rw[Nat.add_assoc];exact(hf _ (by simp at hj;omega)).1) (fun j a ha=>by
   simp at ha;exact(hf _ ((List.getElem?_eq_some_iff.1 ha).1)).2 _ ha)
  exact⟨u,go _ _ _ h h1,h2⟩
 ·rename_i cs hb
  rw[hb]at hr
  obtain⟨b,oo,vs,h,h1,h2,h3,h4⟩:=lL hr
  obtain⟨u,k1,k2⟩:=ll (w:=w) (b:=b) (oo:=oo) (f:=vs) uX hn hv h2 h3 (fun j a ha=>.eO _ _ (h4 j a ha))
  exact⟨u,go _ _ _ h k1,k2⟩
 ·simp at hv
theorem TH {x:Operand} {x':O} (E:cE P w D ι env a) (ho:o.op=.nilCheck x) (hx:cO P x=some x') (hv:eo (dh env x')=some v):oV P a o w D ι v:=by
 have hr:=dv E hx
 unfold eo at hv
 split at hv
 ·rename_i kS i' oo hb
  simp at hv;subst hv
  rw[hb]at hr
  obtain⟨B,h,hB,hk⟩:=ji hr
  exact⟨_,by simp only[execOp,ho,h];rfl,.ptr _ _ _ _ hB hk⟩
 ·rename_i cs hb
  simp at hv;subst hv
  rw[hb]at hr
  obtain⟨b,oo,vs,h,_⟩:=lL hr
  exact⟨_,by simp only[execOp,ho,h];rfl,h▸hr⟩
 ·simp at hv
theorem NJ {x i:Operand} {x' i':O} {t e:TypeId} {m:Nat} (S:gK P hs D ι g w) (E:cE P w D ι env a) (ho:o.op=.indexAddr t x i) (ht:P.underlying t=some (.slice e)) (hm:eG P e=some (m+1)) (hx:cO P x=some x') (hi:cO P i=some i')
  (hv:bQ g (m+1) (dh env x') (dh env i')=some v):oV P a o w D ι v:=by
 have hr:=dv E hx
 have Ez:=dv E hi
 have go:∀b oo n c k (q:Int),a.eval x=.slice (some ⟨b,oo,none⟩) n c->a.eval i=.int k q->0<=q->q<n->(execOp a.eval o).run P w=.ok (.value (.pointer (some ⟨b,oo+q.toNat*(m+1),none⟩))) w:=fun b oo n c k q h h2 h3 h4=>by
  simp only[execOp,ho,h,h2,Instr.indexAt,asIntOf,Sem.run_bind,Sem.run_pure,run_underlying ht,Result.andThen_ok,h3,h4,and_self,if_true,run_sizeOf hm,kU]
 unfold bQ at hv
 split at hv
 ·rename_i rows k q hb tf
  split at hv
  ·rename_i hq
   simp only[Option.bind_eq_some_iff]at hv
   obtain⟨cs,dy,hv⟩:=hv
   split at hv
   ·rename_i hlen
    simp at hv;subst hv
    rw[hb]at hr;rw[tf]at Ez
    have dO:=(List.getElem?_eq_some_iff.1 dy).1
    obtain⟨A,c,h,h1,h2,h3⟩:=xb hr
    rcases h3 with h3|⟨b,oo,sz,vs,rfl,hD,hl,fl,hc,hi⟩
    ·subst h3;simp at dy
    have fy:sz=m+1:=by rw[<-hlen,hl cs (List.mem_of_getElem? dy)]
    refine⟨_,go b oo _ _ k q h (dn Ez) hq ae,.eO _ _ (.dq cs b _ (vs q.toNat) hD (fl cs (List.mem_of_getElem? dy)) (fun j hj=>?_) (fun j a ha=>hi _ _ _ _ dy ha))⟩
    have:=hc q.toNat j dO (by rw[<-hl cs (List.mem_of_getElem? dy)];exact hj)
    rw[fy]at this
    rw[Nat.add_assoc];exact this
   ·simp at hv
  ·simp at hv
 ·rename_i kS off len k q hb tf
  split at hv
  ·rename_i hq
   simp only[Option.bind_eq_some_iff]at hv
   obtain⟨r,Il,hv⟩:=hv
   split at hv
   ·rename_i y7
    simp at hv;subst hv
    rw[hb]at hr;rw[tf]at Ez
    obtain⟨oo,cap,B,h,hB,h1,h2,h3,h4,hk⟩:=jx hr
    obtain⟨B',dG,R,_,_⟩:=S.row _ _ Il
    rw[hB]at dG;injection dG with dG;subst dG
    replace R:=R.row hk
    have fy:B.sz=m+1:=R.sz.trans y7
    refine⟨_,go _ _ _ _ k q h (dn Ez) hq.1 hq.2,?_⟩
    have Dm:oo=off*B.sz:=by rcases h2 with h2|h2<;>omega
    have:oo+q.toNat*(m+1)=(off+q.toNat)*B.sz+0:=by rw[Dm,<-fy,Nat.add_mul];rfl
    rw[this]
    exact .ptr _ _ _ _ hB hk
   ·simp at hv
  ·simp at hv
 ·simp at hv
theorem QL {x i:Operand} {x' i':O} {t e:TypeId} {m len:Nat} (E:cE P w D ι env a) (ho:o.op=.indexAddr t x i) (ht:P.underlying t=some (.array len e)) (hm:eG P e=some (m+1)) (hx:cO P x=some x') (hi:cO P i=some i')
  (hv:cU len (m+1) (dh env x') (dh env i')=some v):oV P a o w D ι v:=by
 have hr:=dv E hx
 have Ez:=dv E hi
 have go:∀b oo k (q:Int),a.eval x=.pointer (some ⟨b,oo,none⟩)->a.eval i=.int k q->0<=q->q<len->(execOp a.eval o).run P w=.ok (.value (.pointer (some ⟨b,oo+q.toNat*(m+1),none⟩))) w:=fun b oo k q h h2 h3 h4=>by
  simp only[execOp,ho,h,h2,Instr.indexAt,asIntOf,Sem.run_bind,Sem.run_pure,run_underlying ht,Instr.sureAddr,Result.andThen_ok,h3,h4,and_self,if_true,run_sizeOf hm,kU]
 unfold cU at hv
 split at hv
 ·rename_i kS r oo k q hb tf
  split at hv
  ·rename_i hq
   simp at hv;subst hv
   rw[hb]at hr;rw[tf]at Ez
   obtain⟨B,h,hB,hk⟩:=ji hr
   refine⟨_,go _ _ k q h (dn Ez) hq.1 hq.2,?_⟩
   rw[Nat.add_assoc]
   exact .ptr _ _ _ _ hB hk
  ·simp at hv
 ·rename_i cs k q hb tf
  split at hv
  ·rename_i hq
   simp at hv;subst hv
   rw[hb]at hr;rw[tf]at Ez
   obtain⟨b,oo,vs,h,h1,h2,h3,h4⟩:=lL hr
   refine⟨_,go _ _ k q h (dn Ez) hq.1 hq.2,.eO _ _ (.dq _ _ _ (fun j=>vs (q.toNat*(m+1)+j)) h1 (fun a ha=>h2 a (List.mem_of_mem_drop ha)) (fun j hj=>?_) (fun j a ha=>h4 _ _ (by simpa using ha)))⟩
   rw[Nat.add_assoc]
   exact h3 _ (by simp at hj;omega)
  ·simp at hv
 ·simp at hv
theorem QN {x i:Operand} {x' i':O} {t:TypeId} (E:cE P w D ι env a) (ho:o.op=.index t x i) (ht:P.underlying t=some .string) (hx:cO P x=some x') (hi:cO P i=some i')
  (hv:cW (dh env x') (dh env i')=some v):oV P a o w D ι v:=by
 have hr:=dv E hx
 have Ez:=dv E hi
 unfold cW at hv
 split at hv
 ·rename_i s k q hb tf
  split at hv
  ·rename_i hq
   simp only[Option.map_eq_some_iff]at hv
   obtain⟨c,hc,rfl⟩:=hv
   rw[hb]at hr;rw[tf]at Ez
   refine⟨_,?_,.eO _ _ (.int _ _)⟩
   simp only[execOp,ho,fQ hr,dn Ez,Instr.index,asIntOf,Sem.run_bind,Sem.run_pure,run_underlying ht,Result.andThen_ok,hq,if_true,hc]
  ·simp at hv
 ·simp at hv
theorem QM {x i:Operand} {x' i':O} {t e:TypeId} {ag:Bool} {len n:Nat} (E:cE P w D ι env a) (ho:o.op=.index t x i) (ht:P.underlying t=some (.array len e)) (uX:oG P e=some ag) (hn:eG P e=some n) (hx:cO P x=some x') (hi:cO P i=some i')
  (hv:cV ag len n (dh env x') (dh env i')=some v):oV P a o w D ι v:=by
 have hr:=dv E hx
 have Ez:=dv E hi
 unfold cV at hv
 split at hv
 ·rename_i cs k q hb tf
  split at hv
  ·rename_i hq
   rw[hb]at hr;rw[tf]at Ez
   obtain⟨vs,f,h,n1,fl,f1,r1⟩:=gM hr
   have go:∀u,(Go.part e vs (q.toNat*n)).run P w=.ok u w->(execOp a.eval o).run P w=.ok (.value u) w:=fun u hu=>by
    simp only[execOp,ho,h,dn Ez,Instr.index,asIntOf,Sem.run_bind,Sem.run_pure,run_underlying ht,Result.andThen_ok,hq,and_self,if_true,run_sizeOf hn,hu]
   unfold part at hv
   cases ag with
   |true=>
    simp only[if_true]at hv
    split at hv
    ·rename_i hl
     simp at hv;subst hv
     simp only[List.length_drop]at hl
     by_cases Ev:n=0
     ·subst Ev
      refine⟨_,go _ (pZ uX hn),.agg _ _ (fun _=>undef) (by simp) (fun a ha=>by simp at ha) (fun j hj=>by simp at hj) (fun j a ha=>by simp at ha)⟩
     refine⟨_,go _ (pZ uX hn),.agg _ _ (fun j=>f (q.toNat*n+j)) (by simp[n1];omega) (fun a ha=>fl a (List.mem_of_mem_drop (List.mem_of_mem_take ha))) (fun j hj=>?_) (fun j a ha=>?_)⟩
     ·simp at hj
      rw[Array.getElem?_extract,if_pos ae];exact f1 _ ae
     ·rw[List.getElem?_take]at ha
      split at ha
      ·exact r1 _ _ (by simpa using ha)
      ·simp at ha
    ·simp at hv
   |false=>
    simp only[Bool.false_eq_true,if_false]at hv
    have oI:cs[q.toNat*n]? =some v:=by simpa[List.head?_drop]using hv
    have dO:=(List.getElem?_eq_some_iff.1 oI).1
    exact⟨_,go _ (nz uX (f1 _ dO)),r1 _ _ oI⟩
  ·simp at hv
 ·simp at hv
theorem Ie {x:Operand} {x':O} {i:Nat} (E:cE P w D ι env a) (ho:o.op=.extract x i) (hx:cO P x=some x') (hv:aL i (dh env x')=some v):oV P a o w D ι v:=by
 have hr:=dv E hx
 unfold aL at hv
 split at hv
 ·rename_i vs hb
  rw[hb]at hr
  obtain⟨us,f,h,h1,h2,h3⟩:=vn hr
  have dO:=(List.getElem?_eq_some_iff.1 hv).1
  exact⟨_,by simp only[execOp,ho,h,Instr.extract,h2 _ dO];rfl,h3 _ _ hv⟩
 ·simp at hv
theorem TL {x:Operand} {x':O} {t:TypeId} {e:TypeId} {n:Nat} (E:cE P w D ι env a) (ho:o.op=.call {callee:=.builtin .len,args:= #[x],argTypes:= #[t]}) (ht:P.underlying t=some (.slice e)) (hx:cO P x=some x') (hv:er (dh env x')=some n):oV P a o w D ι (.int .i64 n):=by
 have hr:=dv E hx
 have go:∀A c,a.eval x=.slice A n c->(execOp a.eval o).run P w=.ok (.value (.int .i64 n)) w:=fun A c h=>by
  simp only[execOp,ho,resolve,Sem.run_bind,Sem.run_pure,Result.andThen_ok,invoke,builtin,Array.map,h]
  simp[Builtin.len_,run_underlying ht,goInt,h]
 refine⟨.int .i64 n,?_,.eO _ _ (.int _ _)⟩
 unfold er at hv
 split at hv<;>simp at hv<;>subst hv<;>rename_i hb<;>rw[hb]at hr
 ·exact go _ _ (jZ hr)
 ·obtain⟨A,c,h,_⟩:=xb hr;exact go _ _ h
 ·obtain⟨oo,cap,B,h,_⟩:=jx hr;exact go _ _ h
theorem QP {x:Operand} {x':O} {t:TypeId} (E:cE P w D ι env a) (ho:o.op=.call {callee:=.builtin .len,args:= #[x],argTypes:= #[t]}) (ht:P.underlying t=some .string) (hx:cO P x=some x') (hv:cY (dh env x')=some v):oV P a o w D ι v:=by
 have hr:=dv E hx
 unfold cY at hv
 split at hv
 ·rename_i s hb
  simp at hv;subst hv
  rw[hb]at hr
  have h:=fQ hr
  refine⟨_,?_,.eO _ _ (.int _ _)⟩
  simp only[execOp,ho,resolve,Sem.run_bind,Sem.run_pure,Result.andThen_ok,invoke,builtin,Array.map,h]
  simp[Builtin.len_,run_underlying ht,goInt,h]
 ·simp at hv
theorem nW {isS:Bool} {len cap h l:Nat} {lo hi:Option Operand} {Oo qD:Option O} (E:cE P w D ι env a) (kJ:rU P lo=some Oo) (Dr:rU P hi=some qD) (hh:dW len (qD.map (dh env))=some h) (hl:dY h (Oo.map (dh env))=some l) (hc:len<=cap):
  (Instr.sliceBounds isS len cap (lo.map a.eval) (hi.map a.eval) none).run P w=.ok (l,h,cap) w/\l<=h/\h<=len:=by
 have bound:∀(x:Operand) (y:O) (k:IntKind) (n:Int) (m:Nat) (c:BoundsCode),cO P x=some y->dh env y=.int k n->0<=n->n<=m->(Instr.sliceBound (a.eval x) m c).run P w=.ok n.toNat w:=fun x y k n m c hx hy h0 h1=>by
  have hr:=dv E hx
  rw[hy]at hr
  simp only[Instr.sliceBound,dn hr,asIntOf,Sem.run_bind,Sem.run_pure,Result.andThen_ok,h0,h1,and_self,if_true]
 have H:h<=len/\((hi=none/\h=len)∨∃x,hi=some x/\∀c,(Instr.sliceBound (a.eval x) cap c).run P w=.ok h w):=by
  cases hi with
  |none=>
   simp[rU]at Dr;subst Dr
   simp[dW]at hh;subst hh
   exact⟨Nat.le_refl _,.inl ⟨rfl,rfl⟩⟩
  |some x=>
   simp only[rU,Option.map_eq_some_iff]at Dr
   obtain⟨y,hy,rfl⟩:=Dr
   simp only[Option.map_some,dW]at hh
   split at hh
   ·rename_i e;cases e
   ·rename_i k n e
    injection e with e
    split at hh
    ·rename_i hn
     simp at hh;subst hh
     exact⟨ae,.inr ⟨x,rfl,fun c=>bound x y k n _ _ hy e hn.1 ae⟩⟩
    ·simp at hh
   ·simp at hh
 have L:l<=h/\((lo=none/\l=0)∨∃x,lo=some x/\∀c,(Instr.sliceBound (a.eval x) h c).run P w=.ok l w):=by
  cases lo with
  |none=>
   simp[rU]at kJ;subst kJ
   simp[dY]at hl;subst hl
   exact⟨Nat.zero_le _,.inl ⟨rfl,rfl⟩⟩
  |some x=>
   simp only[rU,Option.map_eq_some_iff]at kJ
   obtain⟨y,hy,rfl⟩:=kJ
   simp only[Option.map_some,dY]at hl
   split at hl
   ·rename_i e;cases e
   ·rename_i k n e
    injection e with e
    split at hl
    ·rename_i hn
     simp at hl;subst hl
     exact⟨ae,.inr ⟨x,rfl,fun c=>bound x y k n h _ hy e hn.1 hn.2⟩⟩
    ·simp at hl
   ·simp at hl
 refine⟨?_,L.1,H.1⟩
 unfold Instr.sliceBounds
 rcases H.2 with⟨rfl,rfl⟩|⟨x,rfl,hx⟩<;>rcases L.2 with⟨rfl,rfl⟩|⟨y,rfl,hy⟩<;>
  simp only[Option.map_none,Option.map_some,Sem.run_bind,Sem.run_pure,Result.andThen_ok, *]
theorem NK {x:Operand} {x':O} {lo hi:Option Operand} {Oo qD:Option O} {t e:TypeId} {m:Nat} (S:gK P hs D ι g w) (E:cE P w D ι env a) (ho:o.op=.slice t x lo hi none) (ht:P.underlying t=some (.slice e)) (hm:eG P e=some m) (hx:cO P x=some x') (kJ:rU P lo=some Oo) (Dr:rU P hi=some qD)
  (hv:bR g m (dh env x') (Oo.map (dh env)) (qD.map (dh env))=some v):oV P a o w D ι v:=by
 have hr:=dv E hx
 have go:∀A len cap l h,a.eval x=.slice A len cap->(Instr.sliceBounds true len cap (lo.map a.eval) (hi.map a.eval) none).run P w=.ok (l,h,cap) w->(execOp a.eval o).run P w=.ok (.value (.slice (if cap=l then A else A.map (·.add (l*m))) (h-l) (cap-l))) w:=fun A len cap l h h1 h2=>by
  simp only[execOp,ho,h1,Instr.sliceAt,Instr.slice,Sem.run_bind,Sem.run_pure,run_underlying ht,Result.andThen_ok,Option.map_none,h2,run_sizeOf hm]
 unfold bR at hv
 split at hv
 ·rename_i hb
  rw[hb]at hr
  simp only[Option.bind_eq_some_iff,Option.map_eq_some_iff]at hv
  obtain⟨h,hh,l,hl,rfl⟩:=hv
  obtain⟨q,q1,q2⟩:=nW (w:=w) (isS:=true) (cap:=0) E kJ Dr hh hl (Nat.le_refl _)
  have h0:h=0:=ae
  have l0:l=0:=ae
  subst h0;subst l0
  refine⟨_,go _ _ _ _ _ (jZ hr) q,?_⟩
  simp;exact .eO _ _ .ck
 ·rename_i rows hb
  rw[hb]at hr
  simp only[Option.bind_eq_some_iff,Option.map_eq_some_iff]at hv
  obtain⟨h,hh,l,hl,hv⟩:=hv
  split at hv
  ·rename_i dz
   simp at hv;subst hv
   obtain⟨A,c,he,c1,c2,h3⟩:=xb hr
   obtain⟨q,q1,q2⟩:=nW (w:=w) (isS:=true) (cap:=c) E kJ Dr hh hl c1
   refine⟨_,go _ _ _ _ _ he q,.eO _ _ ?_⟩
   have hlen:((rows.drop l).take (h-l)).length=h-l:=by simp;omega
   by_cases hz:h-l=0
   ·have:(rows.drop l).take (h-l)=[]:=by rw[hz];simp
    rw[this,hz]
    exact .Dw _ _ ae
   ·rcases h3 with h3|⟨b,oo,sz,vs,rfl,hD,Lu,fl,hc,hi⟩
    ·subst h3;simp at q2;omega
    rw[if_neg ae]
    simp only[Option.map_some,kU]
    have Ch:sz=m:=by
     have dO:l<rows.length:=ae
     have:=dz rows[l] (List.getElem_mem dO)
     rw[<-this,Lu _ (List.getElem_mem dO)]
    subst Ch
    refine .sl _ b _ _ _ sz (fun i j=>vs (l+i) j) hlen ae ae hD (fun cs dy=>Lu cs (List.mem_of_mem_drop (List.mem_of_mem_take dy))) (fun cs dy=>fl cs (List.mem_of_mem_drop (List.mem_of_mem_take dy))) (fun i j hi hj=>?_) (fun i j cs a dy ha=>?_)
    ·rw[<-hc (l+i) j ae hj,Nat.add_mul]
     congr 2;omega
    ·rw[List.getElem?_take]at dy
     split at dy
     ·exact hi _ _ _ _ (by simpa using dy) ha
     ·simp at dy
  ·simp at hv
 ·rename_i kS off len hb
  rw[hb]at hr
  simp only[Option.bind_eq_some_iff,Option.map_eq_some_iff]at hv
  obtain⟨r,Il,h,hh,l,hl,hv⟩:=hv
  split at hv
  ·rename_i y7
   simp at hv;subst hv
   obtain⟨oo,cap,B,he,hB,h1,h2,h3,h4,hk⟩:=jx hr
   obtain⟨B',dG,R,_,_⟩:=S.row _ _ Il
   rw[hB]at dG;injection dG with dG;subst dG
   replace R:=R.row hk
   have fy:B.sz=m:=R.sz.trans y7
   obtain⟨q,q1,q2⟩:=nW (w:=w) (isS:=true) (cap:=cap) E kJ Dr hh hl h1
   refine⟨_,go _ _ _ _ _ he q,?_⟩
   have e1:(off+l+(cap-l))*B.sz<=B.C:=by rw[show off+l+(cap-l)=off+cap by omega];exact h3
   by_cases mc:cap=l
   ·rw[if_pos mc]
    exact .own _ _ _ _ _ B hB hk ae (.inl ae) e1 ae
   ·rw[if_neg mc]
    simp only[Option.map_some,kU]
    have Dm:oo=off*B.sz:=by rcases h2 with h2|h2<;>omega
    exact .own _ _ _ _ _ B hB hk ae (.inr (by rw[Dm,fy,Nat.add_mul])) e1 ae
  ·simp at hv
 ·simp at hv
theorem Ld {x:Operand} {x':O} {lo hi:Option Operand} {Oo qD:Option O} {t:TypeId} (E:cE P w D ι env a) (ho:o.op=.slice t x lo hi none) (ht:P.underlying t=some .string) (hx:cO P x=some x') (kJ:rU P lo=some Oo) (Dr:rU P hi=some qD)
  (hv:bd (dh env x') (Oo.map (dh env)) (qD.map (dh env))=some v):oV P a o w D ι v:=by
 have hr:=dv E hx
 unfold bd at hv
 split at hv
 ·rename_i s hb
  rw[hb]at hr
  simp only[Option.bind_eq_some_iff,Option.map_eq_some_iff]at hv
  obtain⟨h,hh,l,hl,rfl⟩:=hv
  obtain⟨q,_,_⟩:=nW (w:=w) (isS:=false) E kJ Dr hh hl (Nat.le_refl _)
  refine⟨_,?_,.eO _ _ (.str _)⟩
  simp only[execOp,ho,fQ hr,Instr.sliceAt,Instr.slice,Sem.run_bind,Sem.run_pure,run_underlying ht,Result.andThen_ok,Option.map_none,Option.isSome_none,Bool.false_eq_true,if_false,q]
 ·simp at hv
theorem E4 {xs:List Operand} {ys:List O} (E:cE P w D ι env a) (h:xs.mapM (cO P)=some ys):(xs.map a.eval).length=ys.length/\∀j y,ys[j]? =some y->cN P w D ι (dh env y) ((xs.map a.eval).getD j undef):=by
 induction xs generalizing ys with
 |nil=>simp at h;subst h;simp
 |cons x r ih=>
  simp only[List.mapM_cons,Option.bind_eq_bind,Option.bind_eq_some_iff]at h
  obtain⟨c,hc,mM,dy,h⟩:=h
  simp at h;subst h
  obtain⟨h1,h2⟩:=ih dy
  refine⟨by simpa using h1,fun j d hd=>?_⟩
  cases j with
  |zero=>simp at hd ⊢;subst hd;exact dv E hc
  |succ j=>simp at hd ⊢;simpa using h2 j d hd
theorem QS {f:Nat} {first dp:Array Operand} {BI:List O} (E:cE P w D ι env a) (ho:o.op=.makeFunc (.func f) first dp) (hf:first= #[]) (hc:fY P f=true) (hx:dp.toList.mapM (cO P)=some BI):oV P a o w D ι (.fn f (BI.map (dh env))):=by
 subst hf
 obtain⟨h1,h2⟩:=E4 E hx
 refine⟨.func (.func f) #[] (dp.map a.eval),by simp only[execOp,ho,Instr.makeFunc,Sem.run_bind,Sem.run_pure,Result.andThen_ok];simp,.fn _ _ _ (fun j=>(dp.toList.map a.eval).getD j undef) hc (by simpa using h1) (fun j hj=>?_) (fun j x Ru=>?_)⟩
 ·simp at hj h1
  have:j<dp.size:=ae
  simp[this]
 ·simp only[List.getElem?_map,Option.map_eq_some_iff]at Ru
  obtain⟨y,hy,rfl⟩:=Ru
  exact h2 j y hy
theorem QT {f:Nat} {first dp:Array Operand} {BI:List O} (E:cE P w D ι env a) (ho:o.op=.makeFunc (.func f) first dp) (hf:dp= #[]) (hc:fY P f=true) (hx:first.toList.mapM (cO P)=some BI):oV P a o w D ι (.xJ f (BI.map (dh env))):=by
 subst hf
 obtain⟨h1,h2⟩:=E4 E hx
 refine⟨.func (.func f) (first.map a.eval) #[],by simp only[execOp,ho,Instr.makeFunc,Sem.run_bind,Sem.run_pure,Result.andThen_ok];simp,.xJ _ _ _ (fun j=>(first.toList.map a.eval).getD j undef) hc (by simpa using h1) (fun j hj=>?_) (fun j x Ru=>?_)⟩
 ·simp at hj h1
  have:j<first.size:=ae
  simp[this]
 ·simp only[List.getElem?_map,Option.map_eq_some_iff]at Ru
  obtain⟨y,hy,rfl⟩:=Ru
  exact h2 j y hy
end
end Go.Proofs.YtkbipfflibjfbaaGreat.V

namespace Go.Proofs.YtkbipfflibjfbaaGreat.V
open Go.RowKit
variable {P:Program} {w w':World} {D D':Nat->Prop} {ι ι':Names}
def Mk (P:Program) (a:Act) (o:Oper) (w:World) (D:Nat->Prop) (ι:Names) (id:Id) (v:AV) (r:Row):Prop:=
 ∃u cells T,(execOp a.eval o).run P w=.ok (.value u) (w.alloc (.cells cells T))/\r.w=true/\r.rows.length*r.sz<=cells.size/\(∀cs∈r.rows,cs.length=r.sz)/\(∀cs∈r.rows,∀a∈cs,a.cell=true)/\
  (∀i j cs a,r.rows[i]? =some cs->cs[j]? =some a->∃x,cells[i*r.sz+j]? =some x/\cN P w D ι a x)/\∀ι':Names,ι' id=some ⟨w.heap.size,r.sz,cells.size,none⟩->cN P w D ι' v u
section
variable {g:Rows} {hs:Nat} {env:Env} {a:Act} {o:Oper} {id:Id} {v:AV}
theorem kL {vs:List Value} {cs:List K} (h:vs.mapM Hm=some cs):fc P w D ι (cs.map K.av) vs.toArray:=by
 obtain⟨h1,h2⟩:=sj h
 refine⟨by simp[h1],fun j a ha=>?_⟩
 simp only[List.getElem?_map,Option.map_eq_some_iff]at ha
 obtain⟨c,hc,rfl⟩:=ha
 exact⟨c.val,by simpa using h2 j c hc,w8 c⟩
theorem kA {t:TypeId} {z:List K} (h:kd P t=some z):∃i v,P.info? t=some i/\i.zero=some v/\v.cells.size=i.size/\v.cells.toList.mapM Hm=some z/\z.length=i.size:=by
 unfold kd at h
 split at h
 ·rename_i i hi
  split at h
  ·rename_i v hv
   split at h
   ·rename_i hs
    exact⟨i,v,hi,hv,hs,h,by rw[(sj h).1];simpa using hs⟩
   ·simp at h
  ·simp at h
 ·simp at h
theorem F9 {cs:List AV} {cells:Array Value} (h:fc P w D ι cs cells):∀i j c a,[cs][i]? =some c->c[j]? =some a->∃x,cells[i*cs.length+j]? =some x/\cN P w D ι a x:=by
 intro i j c a hi hj
 cases i with
 |zero=>simp at hi;subst hi;simpa using h.2 j a hj
 |succ i=>simp at hi
theorem Tn {t:TypeId} {z:List K} (ho:o.op=.alloc t) (hz:kd P t=some z):Mk P a o w D ι id (.ptr id 0 0) ⟨true,z.length,[z.map K.av]⟩:=by
 obtain⟨i,v,hi,hv,hs,hm,hl⟩:=kA hz
 have hk:=kL (P:=P) (w:=w) (D:=D) (ι:=ι) hm
 refine⟨.pointer (some ⟨w.heap.size,0,none⟩),v.cells,t,?_,rfl,?_,?_,?_,?_,?_⟩
 ·simp only[execOp,ho,Instr.alloc,zeroValue,typeInfo,Sem.run_bind]
  simp[hi,hv,newVar,newRow]
 ·simp[hl,hs]
 ·intro cs dy;simp at dy;subst dy;simp
 ·intro cs dy x hx;simp at dy;subst dy
  obtain⟨c,_,rfl⟩:=List.mem_map.1 hx;exact c.nG
 ·have:=F9 hk;simpa using this
 ·intro ι' hι
  have:=cN.ptr (P:=P) (w:=w) (D:=D) (ι:=ι') id 0 0 _ hι rfl
  simpa using this
theorem rC {x:AV} {u:Value} (h:cN P w D ι x u) (hc:x.cells.all AV.cell=true):fc P w D ι x.cells u.cells:=by
 obtain⟨h1,f,h2,h3⟩:=h.cells hc
 exact⟨h1,fun j a ha=>⟨f j,h2 j (List.getElem?_eq_some_iff.1 ha).1,h3 j a ha⟩⟩
theorem Tl {t:TypeId} {x:Operand} {x':O} {cs:List AV} (E:cE P w D ι env a) (ho:o.op=.box t x) (hx:cO P x=some x') (hb:cP (dh env x')=some cs):Mk P a o w D ι id (.ptr id 0 0) ⟨true,cs.length,[cs]⟩:=by
 have hr:=dv E hx
 unfold cP at hb
 split at hb
 ·rename_i dz
  simp at hb;subst hb
  have hk:=rC hr dz
  refine⟨.pointer (some ⟨w.heap.size,0,none⟩),(a.eval x).cells,t,?_,rfl,?_,?_,?_,?_,?_⟩
  ·simp only[execOp,ho,Instr.box,Sem.run_bind]
   simp[newVar,newRow]
  ·simp[hk.1]
  ·intro cs dy;simp at dy;subst dy;rfl
  ·intro cs dy y hy;simp at dy;subst dy
   exact List.all_eq_true.1 dz y hy
  ·exact F9 hk
  ·intro ι' hι
   have:=cN.ptr (P:=P) (w:=w) (D:=D) (ι:=ι') id 0 0 _ hι rfl
   simpa using this
 ·simp at hb
theorem foldl_set:∀(vs:List Value) (n off:Nat) (cells:Array Value),off+n+vs.length<=cells.size->((vs.zipIdx n).foldl (fun cs (x:Value×Nat)=>cs.setIfInBounds (off+x.2) x.1) cells).size=cells.size/\
  ∀k,((vs.zipIdx n).foldl (fun cs (x:Value×Nat)=>cs.setIfInBounds (off+x.2) x.1) cells)[k]? =if off+n<=k/\k<off+n+vs.length then vs[k-(off+n)]? else cells[k]?
 |[],n,off,cells,_=>⟨rfl,fun k=>by simp;intro h1 h2;omega⟩
 |v::r,n,off,cells,h=>by
  simp only[List.length_cons]at h
  obtain⟨h1,h2⟩:=foldl_set r (n+1) off (cells.setIfInBounds (off+n) v) (by simp;omega)
  simp only[List.zipIdx_cons,List.foldl_cons]
  refine⟨by rw[h1];simp,fun k=>?_⟩
  rw[h2 k]
  simp only[List.length_cons]
  by_cases hk:k=off+n
  ·subst hk
   rw[if_neg ae,if_pos ae]
   simp[show off+n<cells.size by omega]
  ·by_cases uK:off+n<=k/\k<off+n+(r.length+1)
   ·rw[if_pos ae,if_pos uK]
    have:k-(off+n)=(k-(off+(n+1)))+1:=ae
    rw[this,List.getElem?_cons_succ]
   ·rw[if_neg ae,if_neg uK,Array.getElem?_setIfInBounds_ne ae]
theorem vZ (place:Nat->Option (Nat×Nat)):∀(ps:List (Nat×Value)) (qs:List (Nat×Nat×AV)) (cells:Array Value) (cs res:List AV),fc P w D ι cs cells->(∀a∈cs,a.cell=true)->ps.length=qs.length->
  (∀(k:Nat) i u o' n x,ps[k]? =some (i,u)->qs[k]? =some (o',n,x)->place i=some (o',n)/\cN P w D ι x u)->cI cs qs=some res->∃jQ,Instr.fill place cells ps=some jQ/\fc P w D ι res jQ/\(∀a∈res,a.cell=true)/\res.length=cs.length:=by
 intro ps
 induction ps with
 |nil=>
  intro qs cells cs res hR hf hl _ hv
  cases qs with
  |nil=>simp[cI]at hv;subst hv;exact⟨cells,rfl,hR,hf,rfl⟩
  |cons q r=>simp at hl
 |cons p ps ih=>
  intro qs cells cs res hR hf hl hp hv
  cases qs with
  |nil=>simp at hl
  |cons q qs=>
   obtain⟨i,u⟩:=p
   obtain⟨oo,n,x⟩:=q
   obtain⟨nk,hr⟩:=hp 0 i u oo n x rfl rfl
   unfold cI at hv
   split at hv
   ·rename_i hc
    obtain⟨c1,c2,c3⟩:=hc
    have hk:=rC hr c3
    have y8:u.cells.size=n:=by rw[hk.1,c1]
    have dy:cells.size=cs.length:=hR.1
    unfold Instr.fill
    simp only[nk]
    rw[if_neg (by rw[y8,dy];simp;omega)]
    obtain⟨s1,s2⟩:=foldl_set u.cells.toList 0 oo cells (by simp;omega)
    have e0:(u.cells.zipIdx.foldl (fun cs (x:Value×Nat)=>cs.setIfInBounds (oo+x.2) x.1) cells)=(u.cells.toList.zipIdx 0).foldl (fun cs (x:Value×Nat)=>cs.setIfInBounds (oo+x.2) x.1) cells:=by
     rw[<-Array.foldl_toList];simp
    have xU:=ih qs (u.cells.zipIdx.foldl (fun cs (x:Value×Nat)=>cs.setIfInBounds (oo+x.2) x.1) cells) (cs.take oo++x.cells++cs.drop (oo+n)) res ?_ ?_ (by simpa using hl) (fun k i u o' n x h1 h2=>hp (k+1) i u o' n x (by simpa using h1) (by simpa using h2)) hv
    ·obtain⟨jQ,h1,h2,h3,h4⟩:=xU
     refine⟨jQ,h1,h2,h3,?_⟩
     rw[h4];simp;omega
    ·rw[e0]
     refine⟨by rw[s1,dy];simp;omega,fun j a ha=>?_⟩
     rw[s2 j]
     simp only[Nat.add_zero,Array.length_toList]
     by_cases hj:oo<=j/\j<oo+u.cells.size
     ·rw[if_pos hj]
      rw[List.append_assoc,List.getElem?_append_right (by simp;omega),List.getElem?_append_left (by simp;omega)]at ha
      simp only[List.length_take]at ha
      rw[show min oo cs.length=oo by omega]at ha
      simpa using hk.2 _ _ ha
     ·rw[if_neg hj]
      by_cases VH:j<oo
      ·rw[List.append_assoc,List.getElem?_append_left (by simp;omega),List.getElem?_take,if_pos VH]at ha
       exact hR.2 _ _ ha
      ·rw[List.getElem?_append_right (by simp;omega)]at ha
       simp only[List.length_append,List.length_take,List.getElem?_drop]at ha
       rw[show oo+n+(j-(min oo cs.length+x.cells.length))=j by omega]at ha
       exact hR.2 _ _ ha
    ·intro b hb
     rcases List.mem_append.1 hb with hb|hb
     ·rcases List.mem_append.1 hb with hb|hb
      ·exact hf b (List.mem_of_mem_take hb)
      ·exact List.all_eq_true.1 c3 b hb
     ·exact hf b (List.mem_of_mem_drop hb)
   ·simp at hv
theorem xS {fs:List Field} (h:∀f∈fs,(P.info? f.type).isSome=true):∃AG,fs.mapM (fun f=>(P.info? f.type).map fun i=>(f.offset,i.size))=some AG/\∀(i:Nat) (f:Field) (n:Nat),fs[i]? =some f->eG P f.type=some n->AG[i]? =some (f.offset,n):=by
 induction fs with
 |nil=>exact⟨[],rfl,fun i f n h=>by simp at h⟩
 |cons f r ih=>
  obtain⟨q,h1,h2⟩:=ih (fun x hx=>h x (List.mem_cons_of_mem _ hx))
  obtain⟨i,hi⟩:=Option.isSome_iff_exists.1 (h f (by simp))
  refine⟨(f.offset,i.size)::q,by simp[hi,h1],fun k x n hk hn=>?_⟩
  cases k with
  |zero=>simp at hk;subst hk;simp[eG,hi]at hn;subst hn;rfl
  |succ k=>simp at hk ⊢;exact h2 k x n hk hn
theorem qP {ps:List (Nat×Operand)} {l:List (Nat×O)} (E:cE P w D ι env a) (h:ps.mapM (fun(x:Nat×Operand)=>(cO P x.2).map (x.1,·))=some l):l.length=ps.length/\∀(k i:Nat) (y:O),l[k]? =some (i,y)->∃x,ps[k]? =some (i,x)/\cO P x=some y:=by
 induction ps generalizing l with
 |nil=>simp at h;subst h;simp
 |cons p r ih=>
  simp only[List.mapM_cons,Option.bind_eq_bind,Option.bind_eq_some_iff]at h
  obtain⟨c,hc,mM,dy,h⟩:=h
  simp at h;subst h
  obtain⟨h1,h2⟩:=ih dy
  simp only[Option.map_eq_some_iff]at hc
  obtain⟨y,hy,rfl⟩:=hc
  refine⟨by simp[h1],fun k i z hk=>?_⟩
  cases k with
  |zero=>simp at hk;obtain⟨rfl,rfl⟩:=hk;exact⟨p.2,rfl,hy⟩
  |succ k=>simp at hk ⊢;exact h2 k i z hk
theorem DN {fs:Array Field} {l:List (Nat×O)} {q:List (Nat×Nat×O)} (h:sY P fs l=some q):q.length=l.length/\∀(k oo n:Nat) (y:O),q[k]? =some (oo,n,y)->∃(i:Nat) (f:Field),l[k]? =some (i,y)/\fs[i]? =some f/\f.offset=oo/\eG P f.type=some n:=by
 induction l generalizing q with
 |nil=>simp[sY]at h;subst h;simp
 |cons p r ih=>
  obtain⟨i,x⟩:=p
  unfold sY at h
  split at h
  ·rename_i f hf
   split at h
   ·rename_i n hn
    simp only[Option.map_eq_some_iff]at h
    obtain⟨q',JI,rfl⟩:=h
    obtain⟨h1,h2⟩:=ih JI
    refine⟨by simp[h1],fun k oo m y hk=>?_⟩
    cases k with
    |zero=>simp at hk;obtain⟨rfl,rfl,rfl⟩:=hk;exact⟨i,f,rfl,hf,rfl,hn⟩
    |succ k=>simp only[List.getElem?_cons_succ]at hk ⊢;exact h2 k oo m y hk
   ·simp at h
  ·simp at h
theorem fc.agg {xs:List AV} {vs:Array Value} (h:fc P w D ι xs vs) (hf:∀a∈xs,a.cell=true):cN P w D ι (.agg xs) (.agg vs):=
 .agg xs vs (fun j=>vs.getD j undef) h.1 hf (fun j hj=>by
  have:j<vs.size:=by rw[h.1];exact hj
  simp[this]) (fun j a ha=>by
  obtain⟨u,h1,h2⟩:=h.2 j a ha
  simpa[Array.getD_eq_getD_getElem?,h1]using h2)
theorem NG {t:TypeId} {ps:Array (Nat×Operand)} {fs:Array Field} {z:List K} {l:List (Nat×O)} {q:List (Nat×Nat×O)} {cs:List AV} (E:cE P w D ι env a) (ho:o.op=.build t ps) (ht:P.underlying t=some (.struct fs)) (hz:kd P t=some z) (hl:s5 P ps=some l)
  (r5:∀f∈fs.toList,(P.info? f.type).isSome=true) (hq:sY P fs l=some q) (hv:cI (z.map K.av) (q.map fun(o,n,x)=>(o,n,dh env x))=some cs):oV P a o w D ι (.agg cs):=by
 obtain⟨it,zv,hi,wI,hs,hm,F3⟩:=kA hz
 obtain⟨AG,nk,V2⟩:=xS r5
 have hk:=kL (P:=P) (w:=w) (D:=D) (ι:=ι) hm
 obtain⟨n1,r1⟩:=qP E hl
 obtain⟨n2,r2⟩:=DN hq
 obtain⟨jQ,h1,h2,h3,_⟩:=vZ (P:=P) (w:=w) (D:=D) (ι:=ι) (AG.toArray[·]?) (ps.toList.map fun(i,x)=>(i,a.eval x)) (q.map fun(o,n,x)=>(o,n,dh env x)) zv.cells _ cs (by simpa using hk)
  (fun b hb=>by obtain⟨c,_,rfl⟩:=List.mem_map.1 hb;exact c.nG) (by simp[n2,n1]) (fun k i u o' n x re uK=>by
   simp only[List.getElem?_map,Option.map_eq_some_iff]at re uK
   obtain⟨⟨i',x'⟩,hp,e1⟩:=re
   obtain⟨⟨o2,n',y⟩,JI,e2⟩:=uK
   simp only[Prod.mk.injEq]at e1 e2
   obtain⟨rfl,rfl⟩:=e1
   obtain⟨rfl,rfl,rfl⟩:=e2
   obtain⟨i2,f,JC,hf,rfl,hn⟩:=r2 _ _ _ _ JI
   obtain⟨x2,Bj,hc⟩:=r1 _ _ _ JC
   rw[hp]at Bj
   simp only[Option.some.injEq,Prod.mk.injEq]at Bj
   obtain⟨rfl,rfl⟩:=Bj
   exact⟨by simpa using V2 _ _ _ (by simpa using hf) hn,dv E hc⟩) hv
 refine⟨.agg jQ,?_,h2.agg h3⟩
 have hb:P.built t ((ps.map fun(i,x)=>(i,a.eval x)).toList)=some jQ:=by
  unfold Program.built
  simp only[hi,ht,wI,nk]
  simpa using h1
 simp only[execOp,ho,Sem.run_bind,run_build w t _ _ hb,Result.andThen_ok,Sem.run_pure]
theorem Lc {t e:TypeId} {len n:Nat} {ps:Array (Nat×Operand)} {z:List K} {l:List (Nat×O)} {cs:List AV} (E:cE P w D ι env a) (ho:o.op=.build t ps) (ht:P.underlying t=some (.array len e)) (hz:kd P t=some z) (hl:s5 P ps=some l) (hn:eG P e=some n)
  (hv:cI (z.map K.av) ((l.map fun(x:Nat×O)=>(x.1*n,n,x.2)).map fun(o,n,x)=>(o,n,dh env x))=some cs):oV P a o w D ι (.agg cs):=by
 obtain⟨it,zv,hi,wI,hs,hm,F3⟩:=kA hz
 have hk:=kL (P:=P) (w:=w) (D:=D) (ι:=ι) hm
 obtain⟨n1,r1⟩:=qP E hl
 obtain⟨ie,Io,fy⟩:∃ie,P.info? e=some ie/\ie.size=n:=by simpa[eG]using hn
 obtain⟨jQ,h1,h2,h3,_⟩:=vZ (P:=P) (w:=w) (D:=D) (ι:=ι) (fun i=>some (i*ie.size,ie.size)) (ps.toList.map fun(i,x)=>(i,a.eval x)) ((l.map fun(x:Nat×O)=>(x.1*n,n,x.2)).map fun(o,n,x)=>(o,n,dh env x)) zv.cells _ cs (by simpa using hk)
  (fun b hb=>by obtain⟨c,_,rfl⟩:=List.mem_map.1 hb;exact c.nG) (by simp[n1]) (fun k i u o' n' x re uK=>by
   simp only[List.getElem?_map,Option.map_eq_some_iff]at re uK
   obtain⟨⟨i',x'⟩,hp,e1⟩:=re
   obtain⟨⟨o2,n2,y⟩,⟨⟨i2,y2⟩,JC,e3⟩,e2⟩:=uK
   simp only[Prod.mk.injEq]at e1 e2 e3
   obtain⟨rfl,rfl⟩:=e1
   obtain⟨rfl,rfl,rfl⟩:=e2
   obtain⟨rfl,rfl,rfl⟩:=e3
   obtain⟨x2,Bj,hc⟩:=r1 _ _ _ JC
   rw[hp]at Bj
   simp only[Option.some.injEq,Prod.mk.injEq]at Bj
   obtain⟨rfl,rfl⟩:=Bj
   exact⟨by rw[fy],dv E hc⟩) hv
 refine⟨.agg jQ,?_,h2.agg h3⟩
 have hb:P.built t ((ps.map fun(i,x)=>(i,a.eval x)).toList)=some jQ:=by
  unfold Program.built
  simp only[hi,ht,wI,Io]
  simpa using h1
 simp only[execOp,ho,Sem.run_bind,run_build w t _ _ hb,Result.andThen_ok,Sem.run_pure]
theorem vY:∀(vs:List AV) (sz i:Nat) (rs:List (List AV)) (cs:List AV),0<sz->cs.length=(i+vs.length)*sz->rowsOf sz vs=some rs->
  cI cs ((vs.zipIdx i).map fun(v,j)=>(j*sz,sz,v))=some (cs.take (i*sz)++rs.flatten)/\rs.length=vs.length/\(∀c∈rs,c.length=sz)/\∀c∈rs,∀x∈c,x.cell=true
 |[],sz,i,rs,cs,_,hl,h=>by
  simp[rowsOf]at h;subst h
  simp at hl
  simp[cI,List.take_of_length_le (show cs.length<=i*sz by omega)]
 |v::r,sz,i,rs,cs,fy,hl,h=>by
  simp only[rowsOf,Option.bind_eq_some_iff,Option.map_eq_some_iff]at h
  obtain⟨c,hc,rs',y7,rfl⟩:=h
  unfold rowOf at hc
  split at hc
  ·rename_i tg
   simp at hc;subst hc
   obtain⟨qk,Af⟩:=tg
   simp only[List.length_cons]at hl
   have hmul:(i+(r.length+1))*sz=i*sz+sz+r.length*sz:=by rw[Nat.add_mul,Nat.add_mul];omega
   have ih:=vY r sz (i+1) rs' (cs.take (i*sz)++v.cells++cs.drop (i*sz+sz)) fy (by
    simp[qk];rw[Nat.add_mul,Nat.add_mul];omega) y7
   refine⟨?_,by simp[ih.2.1],?_,?_⟩
   ·simp only[List.zipIdx_cons,List.map_cons,cI]
    rw[if_pos ⟨qk,ae,Af⟩,ih.1]
    congr 1
    rw[List.flatten_cons,<-List.append_assoc]
    congr 1
    rw[Nat.add_mul,Nat.one_mul,List.take_append_of_le_length (by simp[qk];omega)]
    rw[List.take_of_length_le (by simp[qk];omega)]
   ·intro c' lg;rcases List.mem_cons.1 lg with rfl|lg
    ·exact qk
    ·exact ih.2.2.1 c' lg
   ·intro c' lg;rcases List.mem_cons.1 lg with rfl|lg
    ·exact List.all_eq_true.1 Af
    ·exact ih.2.2.2 c' lg
  ·simp at hc
theorem flat_get {α:Type} {o9:List (List α)} {sz:Nat} (h:∀cs∈o9,cs.length=sz) {i j:Nat} {cs:List α} {a:α} (hi:o9[i]? =some cs) (hj:cs[j]? =some a):o9.flatten[i*sz+j]? =some a:=by
 induction o9 generalizing i with
 |nil=>simp at hi
 |cons c r ih=>
  have hc:c.length=sz:=h c (by simp)
  cases i with
  |zero=>
   simp at hi;subst hi
   have dO:=(List.getElem?_eq_some_iff.1 hj).1
   rw[List.flatten_cons,List.getElem?_append_left ae];simpa using hj
  |succ i=>
   rw[List.flatten_cons,List.getElem?_append_right (by rw[hc,Nat.succ_mul];omega)]
   have:(i+1)*sz+j-c.length=i*sz+j:=by rw[hc,Nat.succ_mul];omega
   rw[this]
   exact ih (fun cs dy=>h cs (List.mem_cons_of_mem _ dy)) (by simpa using hi)
theorem Jj {α:Type} {o9:List (List α)} {sz:Nat} (h:∀cs∈o9,cs.length=sz):o9.flatten.length=o9.length*sz:=by
 induction o9 with
 |nil=>simp
 |cons c r ih=>
  rw[List.flatten_cons,List.length_append,h c (by simp),ih (fun cs dy=>h cs (List.mem_cons_of_mem _ dy)),List.length_cons,Nat.succ_mul];omega
theorem pJ {zv:Value} {z:List K} {n:Nat} (hm:zv.cells.toList.mapM Hm=some z) (je:0<z.length):∀k,k<n->∃c,z[k % z.length]? =some c/\((Array.range n).map (zv.cells[· % zv.cells.size]!))[k]? =some c.val:=by
 intro k hk
 obtain⟨h1,h2⟩:=sj hm
 have fy:zv.cells.size=z.length:=by simpa using h1.symm
 have dO:k % z.length<z.length:=Nat.mod_lt _ je
 refine⟨z[k % z.length],List.getElem?_eq_getElem dO,?_⟩
 have h3:=h2 _ _ (List.getElem?_eq_getElem dO)
 simp only[Array.getElem?_toList]at h3
 have Cg:k % z.length<zv.cells.size:=by rw[fy];exact dO
 rw[Array.getElem?_map,Array.getElem?_range,if_pos hk]
 simp only[Option.map_some]
 rw[fy,getElem!_pos zv.cells (k % z.length) Cg]
 rw[Array.getElem?_eq_getElem Cg]at h3
 exact h3
theorem J5 {t e:TypeId} {len sz:Nat} {ps:Array (Nat×Operand)} {z:List K} {l:List (Nat×O)} {rs:List (List AV)} (E:cE P w D ι env a) (ho:o.op=.buildSlice t len ps) (ht:P.underlying t=some (.slice e)) (fy:eG P e=some (sz+1)) (hz:kd P e=some z)
  (hl:s5 P ps=some l) (wG:len*(sz+1)<=4096) (S6:l.map (·.1)=List.range len) (hv:rowsOf (sz+1) (l.map fun x=>dh env x.2)=some rs):Mk P a o w D ι id (.own id 0 len) ⟨true,sz+1,rs⟩:=by
 obtain⟨it,zv,hi,wI,hs,hm,F3⟩:=kA hz
 have j7:it.size=sz+1:=by simpa[eG,hi]using fy
 obtain⟨n1,r1⟩:=qP E hl
 have G7:l.length=len:=by have:=congrArg List.length S6;simpa using this
 by_cases h0:len=0
 ·subst h0
  have FY:l=[]:=List.length_eq_zero_iff.1 G7
  subst FY
  simp[rowsOf]at hv;subst hv
  have Ut:ps= #[]:=by
   apply Array.ext';apply List.eq_nil_of_length_eq_zero;rw[<-n1];rfl
  subst Ut
  refine⟨.slice (some ⟨w.heap.size,0,none⟩) 0 0, #[],e,?_,rfl,by simp,by simp,by simp,fun i j cs x hi=>by simp at hi,fun ι' hι=>?_⟩
  ·simp[execOp,ho,Instr.buildSlice,run_underlying ht,sizeOf,typeInfo,hi,Instr.fill,newRow,Array.range_zero']
  ·exact .own _ 0 0 0 0 _ hι rfl (Nat.le_refl _) (.inl rfl) (by simp) (by simp[maxLen])
 ·have za:fc P w D ι ((List.range (len*(sz+1))).map fun k=>(z.getD (k % z.length) .ck).av) ((Array.range (len*(sz+1))).map (zv.cells[· % zv.cells.size]!)):=by
   refine⟨by simp,fun j x hx=>?_⟩
   simp only[List.getElem?_map,Option.map_eq_some_iff]at hx
   obtain⟨k,hk,rfl⟩:=hx
   have mQ:=(List.getElem?_eq_some_iff.1 hk).1
   simp at mQ
   rw[List.getElem?_range mQ]at hk
   injection hk with hk
   subst hk
   obtain⟨c,hc,hcv⟩:=pJ hm (by rw[F3,j7];omega) j mQ
   exact⟨c.val,hcv,by rw[List.getD_eq_getElem?_getD,hc];exact w8 c⟩
  obtain⟨f1,f2,f3,f4⟩:=vY (l.map fun x=>dh env x.2) (sz+1) 0 rs ((List.range (len*(sz+1))).map fun k=>(z.getD (k % z.length) .ck).av) ae (by simp[G7]) hv
  obtain⟨jQ,h1,h2,h3,h4⟩:=vZ (P:=P) (w:=w) (D:=D) (ι:=ι) (fun i=>some (i*it.size,it.size)) (ps.toList.map fun(i,x)=>(i,a.eval x)) _ _ _ _ za
   (fun b hb=>by obtain⟨c,_,rfl⟩:=List.mem_map.1 hb;exact K.nG _) (by simp[n1]) (fun k i u o' n x re uK=>by
   simp only[List.getElem?_map,Option.map_eq_some_iff]at re uK
   obtain⟨⟨i',x'⟩,hp,e1⟩:=re
   obtain⟨⟨v2,j2⟩,JI,e2⟩:=uK
   simp only[Prod.mk.injEq]at e1 e2
   obtain⟨rfl,rfl⟩:=e1
   obtain⟨rfl,rfl,rfl⟩:=e2
   rw[List.getElem?_zipIdx]at JI
   simp only[List.getElem?_map,Option.map_map,Option.map_eq_some_iff,Function.comp_apply,Prod.mk.injEq,Nat.zero_add]at JI
   obtain⟨⟨i2,y⟩,JC,rfl,rfl⟩:=JI
   obtain⟨x2,Bj,hc⟩:=r1 _ _ _ JC
   rw[hp]at Bj
   simp only[Option.some.injEq,Prod.mk.injEq]at Bj
   obtain⟨rfl,rfl⟩:=Bj
   have wo:(l.map (·.1))[k]? =some i':=by rw[List.getElem?_map,JC];rfl
   have mQ:=(List.getElem?_eq_some_iff.1 wo).1
   rw[S6]at wo
   simp at mQ
   rw[List.getElem?_range ae]at wo
   injection wo with wo
   subst wo
   exact⟨by rw[j7],dv E hc⟩) f1
  simp only[Nat.zero_mul,List.take_zero,List.nil_append,List.length_map]at h2 h3 h4 f2
  have dy:jQ.size=len*(sz+1):=by rw[h2.1,h4];simp
  refine⟨.slice (some ⟨w.heap.size,0,none⟩) len len,jQ,e,?_,rfl,?_,f3,f4,fun i j cs x qD hj=>h2.2 _ _ (flat_get f3 qD hj),fun ι' hι=>?_⟩
  ·have jf:=run_buildSlice (P:=P) w t e len (ps.map fun(i,x)=>(i,a.eval x)) jQ it zv ht hi wI (by rw[j7];omega) (by rw[j7];exact Nat.mul_ne_zero h0 ae) (by rw[<-j7]at h1;simpa using h1)
   simp only[execOp,ho,Sem.run_bind,jf,Result.andThen_ok,Sem.run_pure]
  ·dsimp only;rw[f2,G7,dy];exact Nat.le_refl _
  ·refine .own _ 0 len 0 len _ hι rfl (Nat.le_refl _) (.inr (by simp)) ?_ (by simp only[maxLen];have:=Nat.le_mul_of_pos_right len (show 0<sz+1 by omega);omega)
   dsimp only;rw[dy];simp
theorem Hx {t e:TypeId} {it:TypeInfo} {m:Nat} {z:List K} {l c:Operand} {l' c':O} {n:Nat} {r:Row} (E:cE P w D ι env a) (ho:o.op=.makeSlice t l c) (ht:P.underlying t=some (.slice e)) (fy:eG P e=some (m+1)) (hz:kd P e=some z) (VG:P.info? e=some it) (hby:it.bytes<=32768)
  (hl:cO P l=some l') (hc:cO P c=some c') (hv:im z (dh env l') (dh env c')=some (n,r)):Mk P a o w D ι id (.own id 0 n) r:=by
 obtain⟨it',zv,hi,wI,hs,hm,F3⟩:=kA hz
 rw[VG]at hi;injection hi with hi;subst hi
 have j7:it.size=m+1:=by simpa[eG,VG]using fy
 unfold im at hv
 split at hv
 ·rename_i k1 ln k2 cn e1 e2
  split at hv
  ·rename_i hb
   obtain⟨b1,b2,b3⟩:=hb
   simp at hv
   obtain⟨rfl,rfl⟩:=hv
   have r1:=dn (e1▸dv E hl)
   have r2:=dn (e2▸dv E hc)
   unfold dF at b3
   have Lo:(it.bytes:Int)*cn<=281474976710656:=by
    have h1:(it.bytes:Int)<=32768:=ae
    have h2:(it.bytes:Int)*cn<=32768*16777216:=Int.mul_le_mul h1 ae ae ae
    omega
   have jf:=run_make (P:=P) w t e it zv ht VG wI k1 k2 ln cn b1 b2 Lo ae
   have gn:∀k,k<cn.toNat*it.size->∃x,z[k % z.length]? =some x/\(madeCells zv.cells (cn.toNat*it.size))[k]? =some x.val:=fun k hk=>pJ hm (by rw[F3,j7];omega) k hk
   refine⟨.slice (some ⟨w.heap.size,0,none⟩) ln.toNat cn.toNat,madeCells zv.cells (cn.toNat*it.size),e,by simp only[execOp,ho,r1,r2,Sem.run_bind,jf,Result.andThen_ok,Sem.run_pure],rfl,?_,?_,?_,?_,fun ι' hι=>?_⟩
   ·simp only[List.length_replicate,size_madeCells,F3]
    exact Nat.mul_le_mul_right _ ae
   ·intro cs dy
    have:=List.eq_of_mem_replicate dy
    subst this;simp
   ·intro cs dy x hx
    have:=List.eq_of_mem_replicate dy
    subst this
    obtain⟨c,_,rfl⟩:=List.mem_map.1 hx;exact c.nG
   ·intro i j cs x qD hj
    have nj:=(List.getElem?_eq_some_iff.1 qD).1
    have:=List.eq_of_mem_replicate (List.mem_of_getElem? qD)
    subst this
    simp only[List.length_replicate]at nj
    simp only[List.getElem?_map,Option.map_eq_some_iff]at hj
    obtain⟨q,hq,rfl⟩:=hj
    have gW:=(List.getElem?_eq_some_iff.1 hq).1
    dsimp only
    obtain⟨x,hx,Bj⟩:=gn (i*z.length+j) (by
     rw[<-F3]
     calc i*z.length+j<i*z.length+z.length:=ae
      _=(i+1)*z.length:=by rw[Nat.add_mul,Nat.one_mul]
      _<=cn.toNat*z.length:=Nat.mul_le_mul_right _ ae)
    rw[Nat.mul_comm i,Nat.mul_add_mod,Nat.mod_eq_of_lt gW,hq]at hx
    injection hx with hx;subst hx
    exact⟨_,by rw[Nat.mul_comm i]at Bj ⊢;exact Bj,w8 q⟩
   ·refine .own _ 0 _ 0 _ _ hι rfl ae (.inr (by simp)) ?_ (by simp only[maxLen];omega)
    dsimp only;rw[size_madeCells,F3];simp
  ·simp at hv
 ·simp at hv
end
end Go.Proofs.YtkbipfflibjfbaaGreat.V

namespace Go.Proofs.YtkbipfflibjfbaaGreat.V
open Go.RowKit
variable {P:Program} {w w':World} {D D':Nat->Prop} {ι ι':Names}
def FA (P:Program) (k:TypeId) (m:MK):Prop:=
 (∃s,m=⟨false,[s]⟩/\fF P k=some s)∨
 (∃fs ts,m=⟨true,ts⟩/\P.underlying k=some (.struct fs)/\eU P 4 0 fs.toList=some ts/\P.stoodInHeld k=false/\∀f∈fs.toList,(fF P f.type).isSome=true)
theorem rT {t:TypeId} {m:MK} {z:K} (h:s4 P t=some (m,z)):∃k e i zv,P.underlying t=some (.map k e)/\P.info? e=some i/\i.zero=some zv/\Hm zv=some z/\FA P k m:=by
 unfold s4 at h
 split at h
 ·rename_i k e ht
  split at h
  ·rename_i zv s h1 h2 h3
   simp only[Option.map_eq_some_iff,Prod.mk.injEq]at h
   obtain⟨z',hz,rfl,rfl⟩:=h
   simp only[Option.bind_eq_some_iff]at h2
   obtain⟨i,hi,wI⟩:=h2
   exact⟨k,e,i,zv,ht,hi,wI,hz,.inl ⟨s,rfl,h3⟩⟩
  ·rename_i zv fs h1 h2 h3 h4
   split at h
   ·rename_i ts z' xZ hz
    split at h
    ·rename_i hc
     simp only[Option.some.injEq,Prod.mk.injEq]at h
     obtain⟨rfl,rfl⟩:=h
     simp only[Option.bind_eq_some_iff]at h2
     obtain⟨i,hi,wI⟩:=h2
     simp only[Bool.not_eq_true',List.all_eq_true]at hc
     exact⟨k,e,i,zv,ht,hi,wI,hz,.inr ⟨fs,ts,rfl,h4,xZ,hc.1,hc.2⟩⟩
    ·cases h
   ·cases h
  ·cases h
 ·cases h
theorem xg {t:TypeId} {s:TS} (ht:fF P t=some s) (em:Bool) (n:Nat) (v:Value):(Instr.checkKey em (n+1) t v).run P w=.ok () w:=by
 unfold Instr.checkKey
 cases s with
 |tB=>simp[run_underlying (p7 ht)]
 |tS=>simp[run_underlying (qa ht)]
 |tI=>
  obtain⟨q,hq⟩:=p9 ht
  simp[run_underlying hq]
theorem xh (em:Bool) (n:Nat) (vs:Array Value):∀(d:Nat) (fs:List Field) (off:Nat) (ts:List TS),eU P (d+1) off fs=some ts->(∀f∈fs,(fF P f.type).isSome=true)->off+ts.length<=vs.size->
  Sem.run P (forIn fs PUnit.unit fun f (_:PUnit)=>if f.name≠ "_" then do
    let x <-Go.part f.type vs f.offset
    Instr.checkKey em (n+1) f.type x
    pure (ForInStep.yield PUnit.unit)
   else pure (ForInStep.yield PUnit.unit)) w=Result.ok PUnit.unit w
 |d,[],off,ts,_,_,_=>by simp
 |d,f::r,off,ts,hf,hs,hl=>by
  rw[yQ]at hf
  split at hf
  ·rename_i hcond
   obtain⟨ho,gI⟩:=hcond
   split at hf
   ·rename_i s Rr
    split at hf
    ·rename_i uX
     simp only[Option.map_eq_some_iff]at hf
     obtain⟨OA,hr,rfl⟩:=hf
     simp only[List.length_cons]at hl
     have ih:=xh em n vs d r (off+1) OA hr (fun f hf=>hs f (List.mem_cons_of_mem _ hf)) ae
     have hu:vs[off]? =some vs[off]:=by simp
     simp only[List.forIn_cons,Sem.run_bind,if_pos gI,ho,nz uX hu,Result.andThen_ok,xg Rr,Sem.run_pure]
     exact ih
    ·cases hf
   ·rename_i hn
    have:=hs f (by simp)
    rw[hn]at this;cases this
  ·cases hf
theorem E8 {k:TypeId} {m:MK} (hk:FA P k m) (em:Bool) (key:AV) (u:Value) (uX:key.isAgg=m.ka) (hlen:key.cells.length=m.ks) (hr:cN P w D ι key u):(Instr.checkKey em 10000 k u).run P w=.ok () w:=by
 rcases hk with⟨s,rfl,hs⟩|⟨fs,ts,rfl,r5,xZ,dR,dz⟩
 ·exact xg hs em 9999 u
 ·cases key<;>simp[AV.isAgg]at uX
  rename_i cs
  obtain⟨vs,f,rfl,h1,_⟩:=gM hr
  unfold Instr.checkKey
  simp only[Sem.run_bind,run_underlying r5,Result.andThen_ok]
  rw[<-Array.forIn_toList]
  have h:=xh (P:=P) (w:=w) em 9998 vs 3 fs.toList 0 ts xZ dz (by simp[AV.cells,MK.ks]at hlen;omega)
  rw[h]
  rfl
theorem IK (a b:ByteArray):(a==b)=decide (a=b):=by
 by_cases h:a=b
 ·subst h;rw[decide_eq_true rfl]
  obtain⟨x⟩:=a
  show(x==x)=true
  simp
 ·rw[decide_eq_false h,Bool.eq_false_iff]
  intro hc
  obtain⟨x⟩:=a
  obtain⟨y⟩:=b
  exact h (by rw[show x=y by simpa using(show(x==y)=true from hc)])
theorem KD {t:TypeId} {s:TS} {x y:AV} {u v:Value} {b:Bool} {d:TypeDesc} (ht:fF P t=some s) (hd:P.underlying t=some d) (he:gj s x y=some b) (hx:cN P w D ι x u) (hy:cN P w D ι y v):Instr.sameNow d u v=some b:=by
 unfold gj at he
 split at he
 ·rename_i k n k' n'
  split at he
  ·rename_i hk
   subst hk
   simp at he;subst he
   obtain⟨q,hq⟩:=p9 ht
   rw[hd]at hq;injection hq with hq;subst hq
   rw[dn hx,dn hy]
   simp[Instr.sameNow]
   rfl
  ·cases he
 ·simp at he;subst he
  have hq:=p7 ht
  rw[hd]at hq;injection hq with hq;subst hq
  rw[fa hx,fa hy];rfl
 ·rename_i a c
  simp at he;subst he
  have hq:=qa ht
  rw[hd]at hq;injection hq with hq;subst hq
  rw[fQ hx,fQ hy]
  simp only[Instr.sameNow,IK]
 ·cases he
def Found (es:List MapEntry) (i:Nat) (r:Option Nat) (res:Option (Nat×Value)):Prop:=(r=none/\res=none)∨∃j e,r=some (i+j)/\es[j]? =some e/\res=some (i+j,e.val)
theorem v8 {e:MapEntry} {es:List MapEntry} {i:Nat} {r:Option Nat} {res:Option (Nat×Value)} (h:Found es (i+1) r res):Found (e::es) i r res:=by
 rcases h with h|⟨j,x,h1,h2,h3⟩
 ·exact .inl h
 ·exact .inr ⟨j+1,x,by rw[h1];congr 1;omega,by simpa using h2,by rw[h3];congr 2;omega⟩
theorem BZ {t:TypeId} {s:TS} {d:TypeDesc} {x:AV} {u:Value} (ht:fF P t=some s) (hd:P.underlying t=some d) (hx:cN P w D ι x u):∀(rows:List (List AV)) (es:List MapEntry) (i:Nat) (r:Option Nat),es.length=rows.length->
  (∀(j:Nat) (cs:List AV),rows[j]? =some cs->∃(e:MapEntry) (kv:AV),es[j]? =some e/\cs.head? =some kv/\cN P w D ι kv e.key)->jk ⟨false,[s]⟩ [x] rows i=some r->∃res,Instr.findNow d u es i=some res/\Found es i r res
 |[],[],i,r,_,_,h=>by
  simp[jk]at h;subst h
  exact⟨none,rfl,.inl ⟨rfl,rfl⟩⟩
 |[],e::es,i,r,hl,_,h=>by simp at hl
 |cs::rows,[],i,r,hl,_,h=>by simp at hl
 |cs::rows,e::es,i,r,hl,hr,h=>by
  obtain⟨e',kv,Mr,hk,ij⟩:=hr 0 cs rfl
  simp at Mr;subst Mr
  have dy:cs.take (MK.ks ⟨false,[s]⟩)=[kv]:=by
   cases cs with
   |nil=>simp at hk
   |cons a l=>simp at hk;subst hk;simp[MK.ks]
  unfold jk at h
  rw[dy]at h
  cases hq:gj s x kv with
  |none=>simp[fq,hq]at h
  |some b=>
   have hs:=KD ht hd hq hx ij
   cases b with
   |true=>
    simp[fq,hq]at h;subst h
    exact⟨some (i,e.val),by simp[Instr.findNow,hs],.inr ⟨0,e,rfl,rfl,rfl⟩⟩
   |false=>
    simp[fq,hq]at h
    obtain⟨res,h1,h2⟩:=BZ ht hd hx rows es (i+1) r (by simpa using hl) (fun j cs hj=>hr (j+1) cs (by simpa using hj)) h
    exact⟨res,by simp[Instr.findNow,hs,h1],v8 h2⟩
theorem qG {t:TypeId} {fs:Array Field} {ts:List TS} {xs ys:List AV} {vs us:Array Value} {b:Bool} (r5:P.underlying t=some (.struct fs)) (dR:P.stoodInHeld t=false) (xZ:eU P 4 0 fs.toList=some ts) (hx:fc P w D ι xs vs) (hy:fc P w D ι ys us) (hv:fq ts xs ys=some b):(Op.equal t (.agg vs) (.agg us)).run P w=.ok b w:=by
 obtain⟨l1,l2⟩:=rX hv
 have q:=sv (w:=w) 4 fs.toList 0 ts xZ 9998 ae xs ys vs us b hx hy (by simpa[List.take_of_length_le,l1,l2]using hv)
 have N5:P.fieldsOf t=fs:=by simp[Program.fieldsOf,r5]
 unfold Op.equal
 rw[show Op.maxDepth=9999+1 from rfl,run_equalIn_struct w 9999 t _ _ (by rw[N5];exact r5) dR,N5,q]
theorem sr {cs:List AV} {v:Value} (h:cN P w D ι (.agg cs) v):∃vs,v=.agg vs/\fc P w D ι cs vs:=by
 obtain⟨vs,f,rfl,n1,_,f1,r1⟩:=gM h
 exact⟨vs,rfl,n1,fun j a ha=>⟨f j,f1 j (List.getElem?_eq_some_iff.1 ha).1,r1 j a ha⟩⟩
theorem BY {t:TypeId} {fs:Array Field} {ts:List TS} {xs:List AV} {vs:Array Value} (r5:P.underlying t=some (.struct fs)) (dR:P.stoodInHeld t=false) (xZ:eU P 4 0 fs.toList=some ts) (hx:fc P w D ι xs vs):∀(rows:List (List AV)) (es:List MapEntry) (i:Nat) (r:Option Nat),es.length=rows.length->
  (∀(j:Nat) (cs:List AV),rows[j]? =some cs->∃e:MapEntry,es[j]? =some e/\cN P w D ι (.agg (cs.take ts.length)) e.key)->jk ⟨true,ts⟩ xs rows i=some r->∃res,(Instr.findAsking t (.agg vs) es i).run P w=.ok res w/\Found es i r res
 |[],[],i,r,_,_,h=>by
  simp[jk]at h;subst h
  exact⟨none,by simp[Instr.findAsking],.inl ⟨rfl,rfl⟩⟩
 |[],e::es,i,r,hl,_,h=>by simp at hl
 |cs::rows,[],i,r,hl,_,h=>by simp at hl
 |cs::rows,e::es,i,r,hl,hr,h=>by
  obtain⟨e',Mr,ij⟩:=hr 0 cs rfl
  simp at Mr;subst Mr
  obtain⟨us,hk,hy⟩:=sr ij
  unfold jk at h
  simp only[MK.ks]at h
  split at h
  ·rename_i hq
   simp at h;subst h
   have q:=qG r5 dR xZ hx hy hq
   exact⟨some (i,e.val),by simp[Instr.findAsking,hk,q],.inr ⟨0,e,rfl,rfl,rfl⟩⟩
  ·rename_i hq
   have q:=qG r5 dR xZ hx hy hq
   obtain⟨res,h1,h2⟩:=BY r5 dR xZ hx rows es (i+1) r (by simpa using hl) (fun j cs hj=>hr (j+1) cs (by simpa using hj)) h
   exact⟨res,by simp[Instr.findAsking,hk,q,h1],v8 h2⟩
  ·cases h
theorem vT {a:AV} (h:a.isAgg=false):a.cells=[a]:=by cases a<;>simp_all [AV.isAgg,AV.cells]
theorem v7 {k:TypeId} {m:MK} {B:sU} {r:Row} (hk:FA P k m) {key:AV} {u:Value} (hr:cN P w D ι key u) {es:Array MapEntry} (fy:es.size=r.rows.length)
  (hM:∀(i:Nat) (cs:List AV),r.rows[i]? =some cs->∃(e:MapEntry) (kv vv:AV),es[i]? =some e/\part m.ka m.ks cs=some kv/\cs[m.ks]? =some vv/\cN P w D ι kv e.key/\cN P w D ι vv e.val) {fi:Option Nat} (h:iV m key r.rows=some fi):
  (∀em,(Instr.checkKey em 10000 k u).run P w=.ok () w)/\∃res,(Instr.findKey k u es.toList).run P w=.ok res w/\Found es.toList 0 fi res:=by
 unfold iV at h
 split at h
 ·rename_i hc
  obtain⟨c1,c2,c3⟩:=hc
  refine⟨fun em=>E8 hk em key u c1 c2 hr,?_⟩
  rcases hk with⟨s,rfl,hs⟩|⟨fs,ts,rfl,r5,xZ,dR,dz⟩
  ·rw[vT c1]at h
   have hd:∃d,P.underlying k=some d:=by
    cases s with
    |tB=>exact⟨_,p7 hs⟩
    |tS=>exact⟨_,qa hs⟩
    |tI=>obtain⟨q,hq⟩:=p9 hs;exact⟨_,hq⟩
   obtain⟨d,hd⟩:=hd
   obtain⟨res,h1,h2⟩:=BZ hs hd hr r.rows es.toList 0 fi (by simpa using fy) (fun j cs hj=>by
    obtain⟨e,kv,vv,q1,q2,_,q4,_⟩:=hM j cs hj
    exact⟨e,kv,by simpa using q1,by simpa[part]using q2,q4⟩) h
   exact⟨res,by simp[Instr.findKey,run_underlying hd,h1],h2⟩
  ·cases key<;>simp[AV.isAgg]at c1
   rename_i cs
   obtain⟨vs,rfl,hL⟩:=sr hr
   obtain⟨res,h1,h2⟩:=BY r5 dR xZ hL r.rows es.toList 0 fi (by simpa using fy) (fun j cs hj=>by
    obtain⟨e,kv,vv,q1,q2,_,q4,_⟩:=hM j cs hj
    unfold part at q2
    simp only[if_true]at q2
    split at q2
    ·simp only[Option.some.injEq]at q2;subst q2
     exact⟨e,by simpa using q1,q4⟩
    ·cases q2) h
   exact⟨res,(run_findKey_eq w (by simp[r5]) _ _).trans h1,h2⟩
 ·cases h
section
variable {g:Rows} {hs:Nat} {env:Env} {a:Act} {o:Oper} {id:Id} {v:AV}
theorem AD {m:MK} {x:AV} {u:Value} {p:Id×Row} (S:gK P hs D ι g w) (hr:cN P w D ι x u) (h:dZ g m x=some p):∃B,u=.map (some B.b)/\g p.1=some p.2/\ι p.1=some B/\B.k=some (.map m)/\NN P w D ι B m p.2:=by
 unfold dZ at h
 split at h
 ·rename_i i m'
  split at h
  ·rename_i hm
   subst hm
   simp only[Option.map_eq_some_iff]at h
   obtain⟨r,hg,rfl⟩:=h
   obtain⟨B,rfl,hB,hk⟩:=Nl hr
   obtain⟨B',dG,R,_⟩:=S.row i r hg
   rw[hB]at dG;injection dG with dG;subst dG
   exact⟨B,rfl,hg,hB,hk,(R.map _ hk).2⟩
  ·cases h
 ·cases h
theorem QR {t:TypeId} {x k:Operand} {ok:Bool} {m:MK} {z:K} {x' k':O} {mr:Option Row} (S:gK P hs D ι g w) (E:cE P w D ι env a) (ho:o.op=.lookup t x k ok) (hc:s4 P t=some (m,z)) (hx:cO P x=some x') (hk:cO P k=some k')
  (hv:bx (.look m ok z) [dh env x',dh env k'] g id=some (v,mr)):mr=none/\oV P a o w D ι v:=by
 obtain⟨kt,e,i,zv,ht,hi,wI,Um,hK⟩:=rT hc
 simp only[bx,Option.bind_eq_some_iff,Option.map_eq_some_iff,Prod.mk.injEq]at hv
 obtain⟨p,hp,fi,N4,y,hy,rfl,rfl⟩:=hv
 obtain⟨B,hu,hg,hB,uW,es,clock,hb,fy,hlen,hM⟩:=AD S (dv E hx) hp
 obtain⟨ql,res,hf,hF⟩:=v7 (B:=B) hK (dv E hk) fy hM N4
 have key:∃val,(match res with|some (_,v)=>(v,true)|none=>(zv,false))=(val,fi.isSome)/\cN P w D ι y val:=by
  rcases hF with⟨rfl,rfl⟩|⟨j,en,rfl,he,rfl⟩
  ·simp only[ej,Option.some.injEq]at hy;subst hy
   refine⟨zv,rfl,?_⟩
   rw[Ao Um];exact w8 z
  ·simp only[ej,Option.bind_eq_some_iff,Nat.zero_add]at hy
   obtain⟨cs,dy,hy⟩:=hy
   obtain⟨e',kv,vv,q1,_,q3,_,q5⟩:=hM _ cs dy
   rw[hy]at q3;injection q3 with q3;subst q3
   have:e'=en:=by
    have h1:es.toList[j]? =some e':=by simpa using q1
    rw[he]at h1;injection h1 with h1;exact h1.symm
   subst this
   exact⟨_,rfl,q5⟩
 obtain⟨val,se,me⟩:=key
 have eQ:(getObj B.b).run P w=.ok (.map es clock) w:=MapKept.run_getObj_map hb
 have hz:(zeroValue e).run P w=.ok zv w:=by simp[zeroValue,typeInfo,hi,wI]
 refine⟨rfl,if ok then .tuple #[val,.bool fi.isSome]else val,?_,?_⟩
 ·simp only[execOp,ho,hu,Instr.lookup,Sem.run_bind,run_underlying ht,Result.andThen_ok,eQ,Sem.run_pure,ql,hf]
  rcases hF with⟨rfl,rfl⟩|⟨j,en,rfl,he,rfl⟩
  ·simp only[Prod.mk.injEq]at se
   simp[hz,se.1]
  ·simp only[Prod.mk.injEq]at se
   simp[se.1]
 ·cases ok with
  |false=>exact me
  |true=>
   refine .iJ _ _ (fun j=>if j=0 then val else .bool fi.isSome) rfl (fun j hj=>?_) (fun j b hj=>?_)
   ·have:j=0∨j=1:=by simp at hj;omega
    rcases this with rfl|rfl<;>rfl
   ·match j,hj with
    |0,hj=>simp at hj;subst hj;exact me
    |1,hj=>simp at hj;subst hj;exact .eO _ _ (.bool _)
    |j+2,hj=>simp at hj
theorem QU {t:TypeId} {x:Operand} {m:MK} {z:K} {x':O} {mr:Option Row} (S:gK P hs D ι g w) (E:cE P w D ι env a) (ho:o.op=.call {callee:=.builtin .len,args:= #[x],argTypes:= #[t]}) (hc:s4 P t=some (m,z)) (hx:cO P x=some x')
  (hv:bx (.len m) [dh env x'] g id=some (v,mr)):mr=none/\oV P a o w D ι v:=by
 obtain⟨kt,e,i,zv,ht,hi,wI,Um,hK⟩:=rT hc
 simp only[bx,Option.map_eq_some_iff,Prod.mk.injEq]at hv
 obtain⟨p,hp,rfl,rfl⟩:=hv
 obtain⟨B,hu,hg,hB,uW,es,clock,hb,fy,hlen,hM⟩:=AD S (dv E hx) hp
 have eQ:(getObj B.b).run P w=.ok (.map es clock) w:=MapKept.run_getObj_map hb
 refine⟨rfl,.int .i64 (es.size:Int),?_,by rw[fy];exact .eO _ _ (.int _ _)⟩
 simp only[execOp,ho,resolve,Sem.run_bind,Sem.run_pure,Result.andThen_ok,invoke,builtin,Array.map,hu]
 simp[Builtin.len_,run_underlying ht,goInt,hu,eQ]
def MkM (P:Program) (a:Act) (o:Oper) (w:World) (id:Id) (v:AV) (r:Row):Prop:=
 ∃m,(execOp a.eval o).run P w=.ok (.value (.map (some w.heap.size))) (w.alloc (.map #[] 0))/\v=.map id m/\r=⟨true,m.AM,[]⟩
theorem Tm {t:TypeId} {m:MK} (ho:o.op=.makeMap t none):MkM P a o w id (.map id m) ⟨true,m.AM,[]⟩:=by
 refine⟨m,?_,rfl,rfl⟩
 simp[execOp,ho,Instr.makeMap,go_sem]
def MkC (P:Program) (a:Act) (o:Oper) (w:World) (id:Id) (v:AV) (r:Row):Prop:=
 ∃n,(execOp a.eval o).run P w=.ok (.value (.chan (some w.heap.size))) (w.alloc (.chan n #[] false 0 0 false))/\v=.s8 id/\r=⟨true,rW+n,[]⟩
theorem Qe {t e:TypeId} {x:Operand} {x':O} {dir:ChanDir} {i:TypeInfo} {n:Nat} (E:cE P w D ι env a) (ho:o.op=.makeChan t x) (ht:P.underlying t=some (.chan dir e)) (hi:P.info? e=some i) (hb:i.bytes<=32768) (hx:cO P x=some x') (hn:cZ (dh env x')=some n):MkC P a o w id (.s8 id) ⟨true,rW+n,[]⟩:=by
 refine⟨n,?_,rfl,rfl⟩
 have hr:=dv E hx
 unfold cZ at hn
 split at hn
 ·rename_i k m hm
  rw[hm]at hr
  split at hn
  ·rename_i hc
   simp only[Option.some.injEq]at hn
   subst hn
   have ud:((m.toNat:Nat):Int)=m:=ae
   have dO:(i.bytes:Int)*(m.toNat:Nat)<=281474976710544:=by
    have h1:i.bytes*m.toNat<=32768*1048576:=Nat.mul_le_mul hb ae
    have h2:((i.bytes*m.toNat:Nat):Int)<=281474976710544:=ae
    rwa [Int.natCast_mul]at h2
   have h:=Conc.run_makeChan (P:=P) (w:=w) ht hi k m.toNat ae dO
   rw[ud]at h
   simp only[execOp,ho,dn hr,Sem.run_bind,h,Result.andThen_ok,Sem.run_pure]
  ·cases hn
 ·cases hn
theorem zQ {x:AV} {u:Value} {i:Id} {r:Row} (S:gK P hs D ι g w) (hr:cN P w D ι x u) (hx:x=.s8 i) (hg:g i=some r):∃B c,u=.chan (some B.b)/\ι i=some B/\B.k=some (.chan c)/\r.sz=rW+c/\Iz P w D ι B c r:=by
 subst hx
 obtain⟨B,c,rfl,hB,hk⟩:=Nj hr
 obtain⟨B',dG,R,_⟩:=S.row i r hg
 rw[hB]at dG;injection dG with dG;subst dG
 exact⟨B,c,rfl,hB,hk,R.chan c hk⟩
theorem QO {t e:TypeId} {dir:ChanDir} {x:Operand} {x':O} (S:gK P hs D ι g w) (E:cE P w D ι env a) (ho:o.op=.call {callee:=.builtin .len,args:= #[x],argTypes:= #[t]}) (ht:P.underlying t=some (.chan dir e)) (hx:cO P x=some x') (hv:cX g (dh env x')=some v):oV P a o w D ι v:=by
 have hr:=dv E hx
 unfold cX at hv
 split at hv
 ·rename_i i he
  simp only[Option.map_eq_some_iff]at hv
  obtain⟨r,hg,rfl⟩:=hv
  obtain⟨B,c,hu,hB,hk,fy,buf,s,q,hb,Ij,_⟩:=zQ S hr he hg
  have eQ:(getObj B.b).run P w=.ok (.chan c buf false s q false) w:=by simp[getObj,Sem.run,hb]
  refine⟨.int .i64 (buf.size:Int),?_,by rw[Ij];exact .eO _ _ (.int _ _)⟩
  simp only[execOp,ho,resolve,Sem.run_bind,Sem.run_pure,Result.andThen_ok,invoke,builtin,Array.map,hu]
  simp[Builtin.len_,run_underlying ht,goInt,hu,eQ]
 ·cases hv
end
end Go.Proofs.YtkbipfflibjfbaaGreat.V

namespace Go.Proofs.YtkbipfflibjfbaaGreat.V
open Go.RowKit
variable {P:Program} {w w':World} {D D':Nat->Prop} {ι ι':Names}
def LK (P:Program) (a:Act) (o:Oper) (w:World) (D:Nat->Prop) (ι:Names) (id:Id) (v:AV):Option Row->Prop
 |none=>oV P a o w D ι v
 |some r=>Mk P a o w D ι id v r∨MkM P a o w id v r∨MkC P a o w id v r
section
variable {g:Rows} {hs:Nat} {env:Env} {a:Act} {o:Oper} {id:Id} {v:AV}
theorem l6 {x:Option AV} {mr:Option Row} (h:x.map (·,(none:Option Row))=some (v,mr)) (H:x=some v->oV P a o w D ι v):LK P a o w D ι id v mr:=by
 cases x with
 |none=>simp at h
 |some y=>simp at h;obtain⟨rfl,rfl⟩:=h;exact H rfl
theorem Tu {neg:Bool} {t yt:TypeId} {x y:Operand} {vo:gL} {mr:Option Row} (ho:o.op=.binOp (if neg then .neq else .eql) t x y yt) (hc:sZ P neg t x y=some vo) (hq:eW vo (dh env) g id=some (v,mr)) (E:cE P w D ι env a):LK P a o w D ι id v mr:=by
 unfold sZ at hc
 split at hc
 ·split at hc
  ·rename_i e ht
   simp only[Option.map_eq_some_iff]at hc
   obtain⟨x',hx,rfl⟩:=hc
   simp only[eW,ew,Bool.false_eq_true,if_false,Option.map_eq_some_iff,Prod.mk.injEq]at hq
   obtain⟨b,hb,rfl,rfl⟩:=hq
   exact QK E ho ht hx hb
  ·simp at hc
 ·split at hc
  ·rename_i ht
   simp only[Option.map_eq_some_iff]at hc
   obtain⟨x',hx,rfl⟩:=hc
   simp only[eW,ew,if_true,Option.map_eq_some_iff,Prod.mk.injEq]at hq
   obtain⟨b,hb,rfl,rfl⟩:=hq
   exact QJ E ho ht hx hb
  ·simp at hc
 ·split at hc
  ·rename_i ht
   simp only[Option.map_eq_some_iff]at hc
   obtain⟨x',hx,rfl⟩:=hc
   simp only[eW,Option.map_eq_some_iff,Prod.mk.injEq]at hq
   obtain⟨b,hb,rfl,rfl⟩:=hq
   exact TJ E ho ht hx hb
  ·simp at hc
 ·split at hc
  ·rename_i s hs
   simp only[Option.bind_eq_bind,Option.bind_eq_some_iff,Option.pure_def,Option.some.injEq]at hc
   obtain⟨x',hx,y',hy,rfl⟩:=hc
   simp only[eW,Option.map_eq_some_iff,Prod.mk.injEq]at hq
   obtain⟨b,hb,rfl,rfl⟩:=hq
   have Ak:fF P t=some s:=by
    unfold UW at hs
    split at hs
    ·rename_i s' h;simp at hs;subst hs;exact h
    ·split at hs
     ·split at hs
      ·simp at hs
      ·simp at hs
     ·simp at hs
   exact TK E ho Ak hx hy hb
  ·rename_i ts hs
   simp only[Option.bind_eq_bind,Option.bind_eq_some_iff,Option.pure_def,Option.some.injEq]at hc
   obtain⟨x',hx,y',hy,rfl⟩:=hc
   simp only[eW]at hq
   split at hq
   ·rename_i xs ys h1 h2
    simp only[Option.map_eq_some_iff,Prod.mk.injEq]at hq
    obtain⟨b,hb,rfl,rfl⟩:=hq
    unfold UW at hs
    split at hs
    ·simp at hs
    ·split at hs
     ·rename_i fs r5
      split at hs
      ·rename_i hg
       simp only[Option.map_eq_some_iff,UJ.ag.injEq]at hs
       obtain⟨OA,xZ,rfl⟩:=hs
       simp only[Bool.and_eq_true,Bool.not_eq_true']at hg
       exact TI E ho r5 hg.1 hg.2 xZ hx hy h1 h2 hb
      ·simp at hs
     ·simp at hs
   ·simp at hq
  ·simp at hc
theorem Qk {c:Call} {vo:gL} {mr:Option Row} (ho:o.op=.call c) (hc:ou P c=some vo) (hq:eW vo (dh env) g id=some (v,mr)) (S:gK P hs D ι g w) (E:cE P w D ι env a):LK P a o w D ι id v mr:=by
 unfold ou at hc
 split at hc
 ·rename_i lh
  split at hc
  ·rename_i x t h1 h2
   have uI:c={callee:=.builtin .len,args:= #[x],argTypes:= #[t]}:=by
    obtain⟨a,b,c⟩:=c
    simp only at h1 h2 lh
    subst lh
    congr
    ·exact Array.ext' h1
    ·exact Array.ext' h2
   rw[uI]at ho
   split at hc
   ·rename_i e ht
    simp only[Option.map_eq_some_iff]at hc
    obtain⟨x',hx,rfl⟩:=hc
    simp only[eW,Option.map_eq_some_iff,Prod.mk.injEq]at hq
    obtain⟨n,hn,rfl,rfl⟩:=hq
    exact TL E ho ht hx hn
   ·rename_i ht
    simp only[Option.map_eq_some_iff]at hc
    obtain⟨x',hx,rfl⟩:=hc
    exact l6 hq fun h=>QP E ho ht hx h
   ·split at hc
    ·rename_i m z x' hm hx
     simp only[Option.some.injEq]at hc
     subst hc
     obtain⟨rfl,h⟩:=QU (id:=id) S E ho hm hx hq
     exact h
    ·cases hc
   ·rename_i ht
    simp only[Option.map_eq_some_iff]at hc
    obtain⟨x',hx,rfl⟩:=hc
    exact l6 hq fun h=>QO S E ho ht hx h
   ·simp at hc
  ·simp at hc
 ·split at hc
  ·split at hc
   ·split at hc
    ·split at hc
     ·simp only[Option.bind_eq_bind,Option.bind_eq_some_iff,Option.pure_def,Option.some.injEq]at hc
      obtain⟨x',hx,y',hy,rfl⟩:=hc
      simp[eW]at hq
     ·simp at hc
    ·simp at hc
   ·simp at hc
  ·simp at hc
 ·split at hc
  ·split at hc
   ·split at hc
    ·simp only[Option.map_eq_some_iff]at hc
     obtain⟨x',hx,rfl⟩:=hc
     simp[eW]at hq
    ·simp at hc
   ·simp at hc
  ·simp at hc
 ·split at hc
  ·simp only[Option.map_eq_some_iff]at hc
   obtain⟨x',hx,rfl⟩:=hc
   simp[eW]at hq
  ·simp at hc
 ·simp only[Option.map_eq_some_iff]at hc
  obtain⟨x',hx,rfl⟩:=hc
  simp[eW]at hq
 ·split at hc
  ·split at hc
   ·simp only[Option.some.injEq]at hc
    subst hc
    simp[eW]at hq
   ·cases hc
  ·cases hc
 ·split at hc
  ·split at hc
   ·split at hc
    ·simp only[Option.bind_eq_bind,Option.bind_eq_some_iff,Option.pure_def,Option.some.injEq]at hc
     obtain⟨x',hx,y',hy,rfl⟩:=hc
     simp[eW]at hq
    ·simp at hc
   ·simp at hc
  ·simp at hc
 ·simp at hc
theorem zr {vo:gL} {mr:Option Row} (hc:qO P o.op=some vo) (hq:eW vo (dh env) g id=some (v,mr)) (S:gK P hs D ι g w) (E:cE P w D ι env a):LK P a o w D ι id v mr:=by
 unfold qO at hc
 split at hc
 ·rename_i ho
  simp only[Option.map_eq_some_iff]at hc
  obtain⟨x',hx,rfl⟩:=hc
  simp[eW]at hq;obtain⟨rfl,rfl⟩:=hq
  exact OC E (.inl ho) hx
 ·rename_i ho
  simp only[Option.map_eq_some_iff]at hc
  obtain⟨x',hx,rfl⟩:=hc
  simp[eW]at hq;obtain⟨rfl,rfl⟩:=hq
  exact OC E (.inr ho) hx
 ·rename_i ho
  simp only[Option.bind_eq_bind,Option.bind_eq_some_iff,Option.pure_def,Option.some.injEq]at hc
  obtain⟨c',h1,x',h2,y',h3,rfl⟩:=hc
  exact l6 hq fun h=>QV E ho h1 h2 h3 h
 ·rename_i ho
  simp only[Option.map_eq_some_iff]at hc
  obtain⟨z,hz,rfl⟩:=hc
  simp only[eW,Option.some.injEq,Prod.mk.injEq]at hq
  obtain⟨rfl,rfl⟩:=hq
  exact .inl (Tn ho hz)
 ·rename_i ho
  simp only[Option.map_eq_some_iff]at hc
  obtain⟨x',hx,rfl⟩:=hc
  simp only[eW,Option.map_eq_some_iff,Prod.mk.injEq]at hq
  obtain⟨cs,dy,rfl,rfl⟩:=hq
  exact .inl (Tl E ho hx dy)
 ·rename_i ho
  simp only[Option.bind_eq_bind,Option.bind_eq_some_iff,Option.pure_def,Option.some.injEq]at hc
  obtain⟨ag,h1,n,h2,x',h3,rfl⟩:=hc
  exact l6 hq fun h=>QQ S E ho h1 h2 h3 h
 ·rename_i ho
  simp only[Option.bind_eq_bind,Option.bind_eq_some_iff,Option.pure_def,Option.some.injEq]at hc
  obtain⟨n,h2,x',h3,y',h4,rfl⟩:=hc
  simp[eW]at hq
 ·rename_i ho
  simp only[Option.map_eq_some_iff]at hc
  obtain⟨x',hx,rfl⟩:=hc
  exact l6 hq fun h=>TH E ho hx h
 ·rename_i op t x y yt ho
  unfold vN at hc
  split at hc
  ·exact Tu (neg:=false) ho hc hq E
  ·exact Tu (neg:=true) ho hc hq E
  ·simp only[Option.bind_eq_bind,Option.bind_eq_some_iff,Option.pure_def,Option.some.injEq]at hc
   obtain⟨x',h3,y',h4,rfl⟩:=hc
   exact l6 hq fun h=>TP (left:=true) E ho h3 h4 h
  ·simp only[Option.bind_eq_bind,Option.bind_eq_some_iff,Option.pure_def,Option.some.injEq]at hc
   obtain⟨x',h3,y',h4,rfl⟩:=hc
   exact l6 hq fun h=>TP (left:=false) E ho h3 h4 h
  ·rename_i n1 n2 n3 n4
   split at hc
   ·simp only[Option.bind_eq_bind,Option.bind_eq_some_iff,Option.pure_def,Option.some.injEq]at hc
    obtain⟨x',h3,y',h4,rfl⟩:=hc
    exact l6 hq fun h=>TG E ho n1 n2 h3 h4 h
   ·simp only[Option.bind_eq_bind,Option.bind_eq_some_iff,Option.pure_def,Option.some.injEq]at hc
    obtain⟨x',h3,y',h4,rfl⟩:=hc
    exact l6 hq fun h=>QH E ho n1 n2 h3 h4 h
   ·simp at hc
 ·rename_i ho
  simp only[Option.map_eq_some_iff]at hc
  obtain⟨x',hx,rfl⟩:=hc
  exact l6 hq fun h=>TN E ho hx h
 ·rename_i ho
  simp only[Option.map_eq_some_iff]at hc
  obtain⟨x',hx,rfl⟩:=hc
  exact l6 hq fun h=>TM E ho hx h
 ·rename_i ho
  split at hc
  ·rename_i q k h1 h2
   simp only[Option.map_eq_some_iff]at hc
   obtain⟨x',hx,rfl⟩:=hc
   exact l6 hq fun h=>QI E ho h1 h2 hx h
  ·rename_i h1 h2
   simp only[Option.map_eq_some_iff]at hc
   obtain⟨x',hx,rfl⟩:=hc
   exact l6 hq fun h=>by
    have hr:=dv E hx
    unfold bV at h
    split at h
    ·rename_i s hb
     simp at h;subst h
     rw[hb]at hr
     exact⟨.string s,by simp only[execOp,ho,fQ hr,convert,Sem.run_bind,run_underlying h1,run_underlying h2,Result.andThen_ok,Sem.run_pure],.eO _ _ (.str _)⟩
    ·simp at h
  ·simp at hc
 ·rename_i ho
  split at hc
  ·rename_i e ht
   simp only[Option.bind_eq_bind,Option.bind_eq_some_iff,Option.pure_def,Option.some.injEq]at hc
   obtain⟨n,h1,x',h2,lo,h3,hi,h4,rfl⟩:=hc
   exact l6 hq fun h=>NK S E ho ht h1 h2 h3 h4 h
  ·rename_i ht
   simp only[Option.bind_eq_bind,Option.bind_eq_some_iff,Option.pure_def,Option.some.injEq]at hc
   obtain⟨x',h2,lo,h3,hi,h4,rfl⟩:=hc
   exact l6 hq fun h=>Ld E ho ht h2 h3 h4 h
  ·simp at hc
 ·rename_i ho
  split at hc
  ·rename_i fs r5
   split at hc
   ·rename_i f hf
    split at hc
    ·rename_i m hm
     simp only[Option.map_eq_some_iff]at hc
     obtain⟨x',hx,rfl⟩:=hc
     exact l6 hq fun h=>NH E ho r5 hf hm hx h
    ·simp at hc
   ·simp at hc
  ·simp at hc
 ·rename_i ho
  split at hc
  ·rename_i fs r5
   split at hc
   ·rename_i f hf
    simp only[Option.bind_eq_bind,Option.bind_eq_some_iff,Option.pure_def,Option.some.injEq]at hc
    obtain⟨ag,h1,n,h2,x',h3,rfl⟩:=hc
    exact l6 hq fun h=>NI E ho r5 hf h1 h2 h3 h
   ·simp at hc
  ·simp at hc
 ·rename_i ho
  split at hc
  ·rename_i e ht
   split at hc
   ·rename_i m hm
    simp only[Option.bind_eq_bind,Option.bind_eq_some_iff,Option.pure_def,Option.some.injEq]at hc
    obtain⟨x',h1,i',h2,rfl⟩:=hc
    exact l6 hq fun h=>NJ S E ho ht hm h1 h2 h
   ·simp at hc
  ·rename_i len e ht
   split at hc
   ·rename_i m hm
    simp only[Option.bind_eq_bind,Option.bind_eq_some_iff,Option.pure_def,Option.some.injEq]at hc
    obtain⟨x',h1,i',h2,rfl⟩:=hc
    exact l6 hq fun h=>QL E ho ht hm h1 h2 h
   ·simp at hc
  ·simp at hc
 ·rename_i ho
  split at hc
  ·rename_i ht
   simp only[Option.bind_eq_bind,Option.bind_eq_some_iff,Option.pure_def,Option.some.injEq]at hc
   obtain⟨x',h1,i',h2,rfl⟩:=hc
   exact l6 hq fun h=>QN E ho ht h1 h2 h
  ·rename_i len e ht
   simp only[Option.bind_eq_bind,Option.bind_eq_some_iff,Option.pure_def,Option.some.injEq]at hc
   obtain⟨ag,h0,n,h1,x',h2,i',h3,rfl⟩:=hc
   exact l6 hq fun h=>QM E ho ht h0 h1 h2 h3 h
  ·simp at hc
 ·rename_i ho
  simp only[Option.map_eq_some_iff]at hc
  obtain⟨x',hx,rfl⟩:=hc
  exact l6 hq fun h=>Ie E ho hx h
 ·rename_i ho
  split at hc
  ·rename_i fs r5
   split at hc
   ·rename_i z l hz hl
    split at hc
    ·rename_i dz
     simp only[Option.map_eq_some_iff]at hc
     obtain⟨q,JI,rfl⟩:=hc
     simp only[eW,Option.map_eq_some_iff,Prod.mk.injEq]at hq
     obtain⟨cs,dy,rfl,rfl⟩:=hq
     exact NG E ho r5 hz hl (fun f hf=>by
      rw[Array.all_eq_true_iff_forall_mem]at dz
      exact dz f (Array.mem_toList_iff.1 hf)) JI dy
    ·simp at hc
   ·simp at hc
  ·rename_i len e ht
   split at hc
   ·rename_i z l n hz hl hn
    simp only[Option.some.injEq]at hc
    subst hc
    simp only[eW,Option.map_eq_some_iff,Prod.mk.injEq]at hq
    obtain⟨cs,dy,rfl,rfl⟩:=hq
    exact Lc E ho ht hz hl hn dy
   ·simp at hc
  ·simp at hc
 ·rename_i ho
  split at hc
  ·rename_i e ht
   split at hc
   ·rename_i sz z l h1 h2 h3
    split at hc
    ·rename_i hh
     simp only[Option.some.injEq]at hc
     subst hc
     simp only[eW,Option.map_eq_some_iff,Prod.mk.injEq]at hq
     obtain⟨rs,y7,rfl,rfl⟩:=hq
     exact .inl (J5 E ho ht h1 h2 h3 hh.1 hh.2 (by rw[List.map_map]at y7;exact y7))
    ·simp at hc
   ·simp at hc
  ·simp at hc
 ·rename_i ho
  split at hc
  ·rename_i hh
   simp only[Option.map_eq_some_iff]at hc
   obtain⟨l,hl,rfl⟩:=hc
   simp[eW]at hq;obtain⟨rfl,rfl⟩:=hq
   exact QS E ho hh.1 hh.2 hl
  ·split at hc
   ·rename_i hh
    simp only[Option.map_eq_some_iff]at hc
    obtain⟨l,hl,rfl⟩:=hc
    simp[eW]at hq;obtain⟨rfl,rfl⟩:=hq
    exact QT E ho hh.1 hh.2 hl
   ·simp at hc
 ·rename_i ho
  split at hc
  ·rename_i e ht
   split at hc
   ·rename_i m z i h1 h2 h3
    split at hc
    ·rename_i hb
     simp only[Option.bind_eq_bind,Option.bind_eq_some_iff,Option.pure_def,Option.some.injEq]at hc
     obtain⟨l',h4,c',h5,rfl⟩:=hc
     simp only[eW,Option.map_eq_some_iff,Prod.mk.injEq]at hq
     obtain⟨⟨n,r⟩,hr,rfl,rfl⟩:=hq
     exact .inl (Hx E ho ht h1 h2 h3 hb h4 h5 hr)
    ·simp at hc
   ·simp at hc
  ·simp at hc
 ·rename_i ho
  exact Qk ho hc hq S E
 ·rename_i ho
  split at hc
  ·rename_i dir e ht
   split at hc
   ·rename_i i hi
    split at hc
    ·rename_i hb
     simp only[Option.map_eq_some_iff]at hc
     obtain⟨x',hx,rfl⟩:=hc
     simp only[eW,Option.map_eq_some_iff,Prod.mk.injEq]at hq
     obtain⟨n,hn,rfl,rfl⟩:=hq
     exact .inr (.inr (Qe E ho ht hi hb hx hn))
    ·cases hc
   ·cases hc
  ·cases hc
 ·simp only[Option.bind_eq_bind,Option.bind_eq_some_iff,Option.pure_def,Option.some.injEq]at hc
  obtain⟨x',_,y',_,rfl⟩:=hc
  simp[eW]at hq
 ·split at hc
  ·split at hc
   ·simp only[Option.map_eq_some_iff]at hc
    obtain⟨x',_,rfl⟩:=hc
    simp[eW]at hq
   ·cases hc
  ·cases hc
 ·rename_i ho
  split at hc
  ·rename_i m z hm
   simp only[Option.some.injEq]at hc
   subst hc
   simp only[eW,List.map_nil,bx,Option.some.injEq,Prod.mk.injEq]at hq
   obtain⟨rfl,rfl⟩:=hq
   exact .inr (.inl (Tm ho))
  ·cases hc
 ·rename_i ho
  split at hc
  ·rename_i m z x' k' hm hx hk
   simp only[Option.some.injEq]at hc
   subst hc
   obtain⟨rfl,h⟩:=QR (id:=id) S E ho hm hx hk hq
   exact h
  ·cases hc
 ·split at hc
  ·simp only[Option.some.injEq]at hc
   subst hc
   simp[eW]at hq
  ·cases hc
 ·split at hc
  ·simp only[Option.some.injEq]at hc
   subst hc
   simp[eW]at hq
  ·cases hc
 ·simp only[Option.some.injEq]at hc
  subst hc
  simp[eW]at hq
 ·simp only[Option.some.injEq]at hc
  subst hc
  simp[eW]at hq
 ·simp at hc
end
end Go.Proofs.YtkbipfflibjfbaaGreat.V

namespace Go.Proofs.YtkbipfflibjfbaaGreat.V
open Go.RowKit
variable {P:Program} {w w':World} {D D':Nat->Prop} {ι ι':Names}
def kX (ι:Names) (id:Id) (B:sU):Names:=fun i=>if i=id then some B else ι i
theorem eL (ι:Names) (id:Id) (B:sU):kX ι id B id=some B:=if_pos rfl
theorem ga {ι:Names} {id:Id} {B:sU} (h:ι id=none):∀i B',ι i=some B'->kX ι id B i=some B':=fun i B' hi=>by
 have:i≠id:=by rintro rfl;rw[h]at hi;cases hi
 rw[kX,if_neg this];exact hi
theorem gE {ι:Names} {id i:Id} {B:sU} (h:i≠id):kX ι id B i=ι i:=if_neg h
section
variable {g:Rows} {hs:Nat} {env:Env} {a:Act} {o:Oper} {id:Id} {v:AV}
theorem lx.frame {B:sU} {r:Row} (h:lx P w D ι B r) (hb:w'.heap[B.b]? =w.heap[B.b]?) (hr:∀a v,cN P w D ι a v->cN P w' D' ι' a v):lx P w' D' ι' B r:=
 ⟨h.sz,by obtain⟨c,T,h1,h2⟩:=h.yD;exact⟨c,T,hb.trans h1,h2⟩,h.fits,h.len,h.flat,fun i j cs a hi hj=>by
  obtain⟨v,h1,h2⟩:=h.at_ i j cs a hi hj
  exact⟨v,(World.cell?_of_block (a:=⟨B.b,i*r.sz+j,none⟩) hb).trans h1,hr _ _ h2⟩⟩
theorem iR.frame {B:sU} {r:Row} (h:iR P w D ι B r) (hb:w'.heap[B.b]? =w.heap[B.b]?) (hr:∀a v,cN P w D ι a v->cN P w' D' ι' a v):iR P w' D' ι' B r:=
 ⟨h.sz,h.flat,fun hk=>(h.row hk).frame hb hr,fun m hm=>by
  obtain⟨h1,es,c,h2,h3,h5,h4⟩:=h.map m hm
  refine⟨h1,es,c,hb.trans h2,h3,h5,fun i cs hi=>?_⟩
  obtain⟨e,kv,vv,q1,q2,q3,q4,q5⟩:=h4 i cs hi
  exact⟨e,kv,vv,q1,q2,q3,hr _ _ q4,hr _ _ q5⟩,fun c hc=>by
  obtain⟨h1,buf,s,q,h2,h3,h4⟩:=h.chan c hc
  refine⟨h1,buf,s,q,hb.trans h2,h3,fun i cs hi=>?_⟩
  obtain⟨a,u,q1,q2,q3⟩:=h4 i cs hi
  exact⟨a,u,q1,q2,hr _ _ q3⟩⟩
theorem gK.kill (S:gK P hs D ι g w) (i:Id):gK P hs D ι (cw g i) w:=by
 refine⟨S.lo,S.dead,fun id r h=>?_,fun id kS r r' B B' h h' hw hB dG hb=>?_⟩
 ·unfold cw at h;split at h
  ·cases h
  ·exact S.row id r h
 ·unfold cw at h h'
  split at h
  ·cases h
  ·split at h'
   ·cases h'
   ·exact S.inj id kS r r' B B' h h' hw hB dG hb
theorem gK.sub {g':Rows} (S:gK P hs D ι g w) (h:∀id r,g' id=some r->g id=some r):gK P hs D ι g' w:=
 ⟨S.lo,S.dead,fun id r hr=>S.row id r (h id r hr),fun id kS r r' B B' h1 h2=>S.inj id kS r r' B B' (h _ _ h1) (h _ _ h2)⟩
theorem AZ {hid:List Nat} {n:Nat} {g:Rows}:∀id r,gh hid n g id=some r->g id=some r:=fun id r h=>by
 cases hid with
 |nil=>exact h
 |cons a l=>
  have e:gh (a::l) n g id=if (a::l).contains id.site=true/\id.cC=n then none else g id:=rfl
  rw[e]at h
  by_cases hc:(a::l).contains id.site=true/\id.cC=n
  ·rw[if_pos hc]at h;cases h
  ·rw[if_neg hc]at h;exact h
theorem gK.stay (S:gK P hs D ι g w) (hb:∀b,b<w.heap.size->w'.heap[b]? =w.heap[b]?) (hz:w.heap.size<=w'.heap.size) (hD:∀b,D b->D' b) (hD':∀b,D' b->b<w'.heap.size) (lF:∀b,D' b->D b∨w.heap.size<=b) (hι:∀id B,ι id=some B->ι' id=some B):gK P hs D' ι' g w':=by
 have hr:∀a v,cN P w D ι a v->cN P w' D' ι' a v:=fun a v h=>h.frame (fun b hd=>hb b (S.dead b hd)) hD hι
 have lt:∀{id r B},g id=some r->ι id=some B->B.b<w.heap.size:=fun {id r B} h hB=>by
  obtain⟨B',dG,R,_⟩:=S.row id r h
  rw[hB]at dG;injection dG with dG;subst dG
  exact R.lt
 refine⟨Nat.le_trans S.lo hz,hD',fun id r h=>?_,fun id kS r r' B B' h h' hw hB dG he=>?_⟩
 ·obtain⟨B,hB,R,h1,h2⟩:=S.row id r h
  exact⟨B,hι _ _ hB,R.frame (hb _ (lt h hB)) hr,h1,fun hw hd=>by
   rcases lF _ hd with hd|hd
   ·exact h2 hw hd
   ·have:=lt h hB;omega⟩
 ·obtain⟨C,hC,_⟩:=S.row id r h
  obtain⟨C',Eh,_⟩:=S.row kS r' h'
  have e1:=hι _ _ hC
  have e2:=hι _ _ Eh
  rw[hB]at e1;injection e1 with e1;subst e1
  rw[dG]at e2;injection e2 with e2;subst e2
  exact S.inj id kS r r' _ _ h h' hw hC Eh he
theorem Step.stay (S:gK P hs D ι g w) (hb:∀b,b<w.heap.size->w'.heap[b]? =w.heap[b]?) (hz:w.heap.size<=w'.heap.size) (e1:w'.os=w.os) (e2:w'.tape=w.tape) (e3:w'.output=w.output) (hD:∀b,D b->D' b) (lF:∀b,D' b->D b∨w.heap.size<=b) (hι:∀id B,ι id=some B->ι' id=some B):Step hs D ι w D' ι' w':=
 ⟨⟨e1,e2,e3,hz,fun k hk=>hb k (Nat.lt_of_lt_of_le hk S.lo)⟩,fun b hd=>hb b (S.dead b hd),hD,hι,fun b h=>(lF b h).imp_right (Nat.le_trans S.lo)⟩
theorem gK.alloc (S:gK P hs D ι g w) {cells:Array Value} {T:TypeId} {r:Row} (hh:w'.heap=w.heap.push (.cells cells T (0,0))) (hn:ι id=none) (hw:r.w=true) (h1:r.rows.length*r.sz<=cells.size) (h2:∀cs∈r.rows,cs.length=r.sz) (h3:∀cs∈r.rows,∀a∈cs,a.cell=true)
  (h4:∀i j cs a,r.rows[i]? =some cs->cs[j]? =some a->∃x,cells[i*r.sz+j]? =some x/\cN P w D ι a x):gK P hs D (kX ι id ⟨w.heap.size,r.sz,cells.size,none⟩) (bU g id r) w':=by
 have hb:∀b,b<w.heap.size->w'.heap[b]? =w.heap[b]? :=fun b dO=>by rw[hh,Array.getElem?_push,if_neg ae]
 have hz:w.heap.size<=w'.heap.size:=by rw[hh];simp
 have S':=S.stay (D':=D) (ι':=kX ι id ⟨w.heap.size,r.sz,cells.size,none⟩) hb hz (fun _ h=>h) (fun b hd=>Nat.lt_of_lt_of_le (S.dead b hd) hz) (fun _ h=>.inl h) (ga hn)
 have hr:∀a v,cN P w D ι a v->cN P w' D (kX ι id ⟨w.heap.size,r.sz,cells.size,none⟩) a v:=fun a v h=>h.frame (fun b hd=>hb b (S.dead b hd)) (fun _ h=>h) (ga hn)
 have lF:w'.heap[w.heap.size]? =some (.cells cells T (0,0)):=by rw[hh];simp
 have gone:g id=none:=by
  cases hg:g id with
  |none=>rfl
  |some q=>
   obtain⟨B,hB,_⟩:=S.row id q hg
   rw[hn]at hB;cases hB
 have lt:∀{i q B},g i=some q->ι i=some B->B.b<w.heap.size:=fun {i q B} h hB=>by
  obtain⟨B',dG,R,_⟩:=S.row i q h
  rw[hB]at dG;injection dG with dG;subst dG
  exact R.lt
 refine⟨S'.lo,S'.dead,fun i q h=>?_,fun i i' q q' B B' h h' S4 hB dG he=>?_⟩
 ·unfold bU at h
  split at h
  ·rename_i e
   subst e
   injection h with h;subst h
   refine⟨_,eL _ _ _,lx.obj ⟨rfl,⟨cells,T,lF,rfl⟩,h1,h2,h3,fun k j cs a hk hj=>?_⟩ rfl,fun _=>S.lo,fun _ hd=>?_⟩
   ·obtain⟨x,hx,hrx⟩:=h4 k j cs a hk hj
    exact⟨x,by simp[World.cell?,lF,hx],hr _ _ hrx⟩
   ·have:=S.dead _ hd;simp at this
  ·exact S'.row i q h
 ·unfold bU at h h'
  split at h
  ·rename_i e
   split at h'
   ·rename_i e';exact e.trans e'.symm
   ·exfalso
    rename_i e'
    subst e
    rw[eL]at hB;injection hB with hB;subst hB
    rw[gE e']at dG
    have:=lt h' dG
    simp at he;omega
  ·rename_i e
   split at h'
   ·exfalso
    rename_i e'
    subst e'
    rw[eL]at dG;injection dG with dG;subst dG
    rw[gE e]at hB
    have:=lt h hB
    simp at he;omega
   ·exact S'.inj i i' q q' B B' h h' S4 hB dG he
theorem gK.put (S:gK P hs D ι g w) {r r':Row} {B:sU} {cur cur':Array Value} {T:TypeId} (hid:g id=some r) (hw:r.w=true) (hB:ι id=some B) (hblk:w.heap[B.b]? =some (.cells cur T (0,0))) (fy:cur'.size=cur.size)
  (h0:r'.w=true) (h1:r'.sz=r.sz) (h2:r'.rows.length*r'.sz<=B.C) (h3:∀cs∈r'.rows,cs.length=r'.sz) (h4:∀cs∈r'.rows,∀a∈cs,a.cell=true)
  (h5:∀i j cs a,r'.rows[i]? =some cs->cs[j]? =some a->∃v,cur'[i*r.sz+j]? =some v/\cN P w D ι a v):gK P hs D ι (bU g id r') (w.setRow B.b cur')/\Step hs D ι w D ι (w.setRow B.b cur'):=by
 obtain⟨B0,oK,RO,kJ,kZ⟩:=S.row id r hid
 rw[hB]at oK;injection oK with oK;subst oK
 have tk:=RO.M3 hblk
 have R:=RO.row tk
 have hd:∀b,D b->(w.setRow B.b cur').heap[b]? =w.heap[b]? :=fun b hb=>setRow_other w B.b b cur' (by rintro rfl;exact kZ hw hb)
 have hr:∀a v,cN P w D ι a v->cN P (w.setRow B.b cur') D ι a v:=fun a v h=>h.frame hd (fun _ h=>h) (fun _ _ h=>h)
 have hC:cur.size=B.C:=by
  obtain⟨c,T',h1,h2⟩:=R.yD
  rw[hblk]at h1;injection h1 with h1;injection h1 with h1 Sc;subst h1;exact h2
 refine⟨⟨by simpa using S.lo,fun b hb=>by simpa using S.dead b hb,fun i q h=>?_,fun i i' q q' C C' h h' S4 hC Eh he=>?_⟩,⟨⟨by simp,by simp,by simp,by simp,fun k hk=>setRow_other w B.b k cur' (by have:=kJ hw;omega)⟩,hd,fun _ h=>h,fun _ _ h=>h,fun _ h=>.inl h⟩⟩
 ·unfold bU at h
  split at h
  ·rename_i e
   subst e
   injection h with h;subst h
   refine⟨B,hB,lx.obj ⟨by rw[h1];exact R.sz,⟨cur',T,setRow_heap w B.b cur cur' T _ hblk,by rw[fy];exact hC⟩,h2,h3,h4,fun k j cs a hk hj=>?_⟩ tk,fun _=>kJ hw,fun _=>kZ hw⟩
   obtain⟨v,hv,me⟩:=h5 k j cs a hk hj
   exact⟨v,by rw[cell_setRow_same w B.b _ cur cur' T _ hblk,h1];exact hv,hr _ _ me⟩
  ·rename_i e
   obtain⟨C,hC,RC,k1,k2⟩:=S.row i q h
   refine⟨C,hC,RC.frame (setRow_other w B.b C.b cur' (fun Lo=>e ?_)) hr,k1,k2⟩
   exact(S.inj id i r q B C hid h hw hB hC Lo.symm).symm
 ·unfold bU at h h'
  have get:∀j p,(if j=id then some r' else g j)=some p->∃p0,g j=some p0/\(p.w=true->p0.w=true):=fun j p hp=>by
   split at hp
   ·rename_i e;subst e;injection hp with hp;subst hp;exact⟨r,hid,fun _=>hw⟩
   ·exact⟨p,hp,fun h=>h⟩
  obtain⟨p,hp,Ro⟩:=get _ _ h
  obtain⟨p',MB,_⟩:=get _ _ h'
  exact S.inj i i' p p' C C' hp MB (Ro S4) hC Eh he
theorem gK.rename (S:gK P hs D ι g w) {i:Id} {r:Row} {B:sU} (hi:g i=some r) (hw:r.w=true) (hB:ι i=some B) (hn:ι id=none):gK P hs D (kX ι id B) (bU (cw g i) id r) w:=by
 have S':=S.stay (w':=w) (D':=D) (ι':=kX ι id B) (fun _ _=>rfl) (Nat.le_refl _) (fun _ h=>h) S.dead (fun _ h=>.inl h) (ga hn)
 have gI:i≠id:=by rintro rfl;rw[hn]at hB;cases hB
 obtain⟨B1,qj,R,k1,k2⟩:=S'.row i r hi
 rw[gE gI,hB]at qj;injection qj with qj;subst qj
 have get:∀j p,bU (cw g i) id r j=some p->(j=id/\p=r)∨(j≠id/\j≠i/\g j=some p):=fun j p hp=>by
  unfold bU cw at hp
  split at hp
  ·rename_i e;injection hp with hp;exact .inl ⟨e,hp.symm⟩
  ·rename_i e
   split at hp
   ·cases hp
   ·rename_i e';exact .inr ⟨e,e',hp⟩
 refine⟨S.lo,S.dead,fun j p h=>?_,fun j j' p p' C C' h h' Ro hC Eh he=>?_⟩
 ·rcases get j p h with⟨rfl,rfl⟩|⟨_,_,hp⟩
  ·exact⟨B,eL _ _ _,R,k1,k2⟩
  ·exact S'.row j p hp
 ·rcases get j p h with⟨rfl,rfl⟩|⟨q1,q2,hp⟩
  ·rcases get j' p' h' with⟨rfl,rfl⟩|⟨q1',q2',MB⟩
   ·rfl
   ·exfalso
    rw[eL]at hC;injection hC with hC;subst hC
    rw[gE q1']at Eh
    exact q2' (S.inj i j' p p' B C' hi MB hw hB Eh he).symm
  ·rcases get j' p' h' with⟨rfl,rfl⟩|⟨q1',q2',MB⟩
   ·exfalso
    rw[eL]at Eh;injection Eh with Eh;subst Eh
    rw[gE q1]at hC
    exact q2 (S.inj j i p p' C B hp hi Ro hC hB he)
   ·rw[gE q1]at hC
    rw[gE q1']at Eh
    exact S.inj j j' p p' C C' hp MB Ro hC Eh he
def Dy (P:Program) (hs:Nat) (a:Act) (o:Oper) (w:World) (D:Nat->Prop) (ι:Names) (id:Id) (v:AV) (g':Rows):Prop:=
 ∃u w' ι',((execOp a.eval o).run P w=.ok (.value u) w'∨(execOp a.eval o).run P w=.ok .skip w'/\u=undef)/\Step hs D ι w D ι' w'/\gK P hs D ι' g' w'/\cN P w' D ι' v u/\∀i,i≠id->ι' i=ι i
theorem CX {xs:List AV} {vs:Array Value} (h:fc P w D ι xs vs) (hf:∀a∈xs,a.cell=true):∀v∈vs.toList,v.oneCell'=true:=by
 intro v hv
 obtain⟨j,hj,rfl⟩:=List.getElem_of_mem hv
 have Oa:j<xs.length:=by rw[<-h.1];simpa using hj
 obtain⟨u,hu,hr⟩:=h.2 j _ (List.getElem?_eq_getElem Oa)
 have hc:=hr.BJ (hf _ (List.getElem_mem Oa))
 have:vs.toList[j]=u:=by
  have:vs.toList[j]? =some u:=by simpa using hu
  rw[List.getElem?_eq_getElem hj]at this;injection this
 rw[this]
 cases u<;>simp_all [Value.oneCell']
theorem ko {i j n m:Nat} (h:i<n) (hj:j<m):i*m+j<n*m:=by
 have:(i+1)*m<=n*m:=Nat.mul_le_mul_right _ h
 rw[Nat.add_mul,Nat.one_mul]at this;omega
theorem lx.cur {B:sU} {r:Row} (R:lx P w D ι B r):∃cur T,w.heap[B.b]? =some (.cells cur T (0,0))/\cur.size=B.C/\∀i j cs a,r.rows[i]? =some cs->cs[j]? =some a->∃v,cur[i*r.sz+j]? =some v/\cN P w D ι a v:=by
 obtain⟨cur,T,h1,h2⟩:=R.yD
 refine⟨cur,T,h1,h2,fun i j cs a hi hj=>?_⟩
 obtain⟨v,hv,hr⟩:=R.at_ i j cs a hi hj
 exact⟨v,by simpa[World.cell?,h1]using hv,hr⟩
theorem Mb {t:TypeId} {n:Nat} {x y:Operand} {x' y':O} {g':Rows} (S:gK P hs D ι g w) (E:cE P w D ι env a) (ho:o.op=.store t x y) (hn:eG P t=some n) (hx:cO P x=some x') (hy:cO P y=some y')
  (hv:bz g n (dh env y') (dh env x')=some g'):Dy P hs a o w D ι id .undef g':=by
 have rx:=dv E hx
 have ry:=dv E hy
 unfold bz at hv
 split at hv
 ·rename_i i k off hp
  rw[hp]at rx
  simp only[Option.bind_eq_some_iff]at hv
  obtain⟨r,hg,cs,dy,hv⟩:=hv
  split at hv
  ·rename_i hc
   obtain⟨c1,c2,c3,c4⟩:=hc
   simp at hv;subst hv
   obtain⟨B,he,hB,hk⟩:=ji rx
   obtain⟨B',dG,R,kJ,kZ⟩:=S.row i r hg
   rw[hB]at dG;injection dG with dG;subst dG
   replace R:=R.row hk
   obtain⟨cur,T,hblk,hC,wj⟩:=R.cur
   have hL:=rC ry c3
   have h1:=CX hL (List.all_eq_true.1 c3)
   have ME:(a.eval y).cells.size=n:=by rw[hL.1,c2]
   have mQ:=(List.getElem?_eq_some_iff.1 dy).1
   have hlen:=R.len cs (List.mem_of_getElem? dy)
   have hbound:k*r.sz+r.sz<=r.rows.length*r.sz:=by
    have:(k+1)*r.sz<=r.rows.length*r.sz:=Nat.mul_le_mul_right _ mQ
    rwa [Nat.add_mul,Nat.one_mul]at this
   have hf:=R.fits
   have dR:=run_storeCells_at P B.b (k*B.sz+off) T (a.eval y).cells.toList 0 cur w hblk (by rw[R.sz];simp only[Array.length_toList];omega) h1
   simp only[Nat.add_zero,Array.length_toList]at dR
   have wD:=S.put (r':={r with rows:=r.rows.set k (cH cs off (dh env y').cells)}) hg c1 hB hblk (cur':=(cur.toList.take (k*B.sz+off)++(a.eval y).cells.toList++cur.toList.drop (k*B.sz+off+(a.eval y).cells.size)).toArray)
    (by rw[R.sz];simp;omega) c1 rfl (by simpa using R.fits) (fun c G5=>by
     rcases List.mem_or_eq_of_mem_set G5 with h|rfl
     ·exact R.len c h
     ·simp[cH];omega) (fun c G5 b hb=>by
     rcases List.mem_or_eq_of_mem_set G5 with h|rfl
     ·exact R.flat c h b hb
     ·unfold cH at hb
      rcases List.mem_append.1 hb with hb|hb
      ·rcases List.mem_append.1 hb with hb|hb
       ·exact R.flat cs (List.mem_of_getElem? dy) b (List.mem_of_mem_take hb)
       ·exact List.all_eq_true.1 c3 b hb
      ·exact R.flat cs (List.mem_of_getElem? dy) b (List.mem_of_mem_drop hb)) (fun i2 j c b yZ hj=>by
     rw[R.sz]
     simp only[List.getElem?_toArray]
     by_cases wo:i2=k
     ·subst wo
      rw[List.getElem?_set_self mQ]at yZ
      injection yZ with yZ;subst yZ
      unfold cH at hj
      by_cases hjo:j<off
      ·rw[List.append_assoc,List.getElem?_append_left (by simp;omega),List.getElem?_take,if_pos hjo]at hj
       rw[List.append_assoc,List.getElem?_append_left (by simp;omega),List.getElem?_take,if_pos ae]
       simpa using wj _ _ _ _ dy hj
      ·by_cases jI:j<off+n
       ·rw[List.append_assoc,List.getElem?_append_right (by simp;omega),List.getElem?_append_left (by simp;omega)]at hj
        rw[List.append_assoc,List.getElem?_append_right (by simp;omega),List.getElem?_append_left (by simp;omega)]
        simp only[List.length_take]at hj ⊢
        rw[show j-min off cs.length=j-off by omega]at hj
        rw[show i2*r.sz+j-min (i2*r.sz+off) cur.toList.length=j-off by simp;omega]
        simpa using hL.2 _ _ hj
       ·rw[List.getElem?_append_right (by simp;omega)]at hj
        rw[List.getElem?_append_right (by simp;omega)]
        simp only[List.length_append,List.length_take,List.getElem?_drop,Array.length_toList]at hj ⊢
        rw[show off+(dh env y').cells.length+(j-(min off cs.length+(dh env y').cells.length))=j by omega]at hj
        rw[show i2*r.sz+off+(a.eval y).cells.size+(i2*r.sz+j-(min (i2*r.sz+off) cur.size+(a.eval y).cells.size))=i2*r.sz+j by omega]
        simpa using wj _ _ _ _ dy hj
     ·rw[List.getElem?_set_ne (fun e=>wo e.symm)]at yZ
      have hi2l:=(List.getElem?_eq_some_iff.1 yZ).1
      have gW:j<r.sz:=by rw[<-R.len c (List.mem_of_getElem? yZ)];exact(List.getElem?_eq_some_iff.1 hj).1
      have:=wj _ _ _ _ yZ hj
      rcases Nat.lt_or_gt_of_ne wo with dO|Im
      ·have h2:i2*r.sz+j<k*r.sz:=ko dO gW
       rw[List.append_assoc,List.getElem?_append_left (by simp;omega),List.getElem?_take,if_pos ae]
       simpa using this
      ·have h2:k*r.sz+r.sz<=i2*r.sz:=by
        have:(k+1)*r.sz<=i2*r.sz:=Nat.mul_le_mul_right _ Im
        rwa [Nat.add_mul,Nat.one_mul]at this
       rw[List.getElem?_append_right (by simp;omega)]
       simp only[List.length_append,List.length_take,List.getElem?_drop,Array.length_toList]
       rw[show k*r.sz+off+(a.eval y).cells.size+(i2*r.sz+j-(min (k*r.sz+off) cur.size+(a.eval y).cells.size))=i2*r.sz+j by omega]
       simpa using this)
   refine⟨undef,_,ι,.inr ⟨?_,rfl⟩,wD.2,wD.1,cN.undef,fun _ _=>rfl⟩
   simp only[execOp,ho,he,Instr.storeAt,Instr.sureAddr,storeVar,Sem.run_bind,Sem.run_pure,Result.andThen_ok,run_sizeOf hn,ME,ne_eq,not_true_eq_false,if_false,dR]
  ·simp at hv
 ·simp at hv
end
end Go.Proofs.YtkbipfflibjfbaaGreat.V

namespace Go.Proofs.YtkbipfflibjfbaaGreat.V
open Go.RowKit
variable {P:Program} {w w':World} {D D':Nat->Prop} {ι ι':Names}
section
variable {g:Rows} {hs:Nat} {env:Env} {a:Act} {o:Oper} {id:Id} {v:AV}
theorem su (S:gK P hs D ι g w) {y:AV} {u:Value} {ys:List (List AV)} {sz:Nat} (hr:cN P w D ι y u) (hy:br g y=some ys) (hl:∀c∈ys,c.length=sz) (hf:∀c∈ys,∀b∈c,b.cell=true):
  ∃A c,u=.slice A ys.length c/\(ys=[]∨∃b o,∃news:List Value,A=some ⟨b,o,none⟩/\news.length=ys.length*sz/\(∀j v,news[j]? =some v->w.cell? ⟨b,o+j,none⟩=some v)/\fc P w D ι ys.flatten news.toArray/\∀v∈news,v.oneCell'=true):=by
 have fin:∀b o,ys≠[]->(∀i j cs x,ys[i]? =some cs->cs[j]? =some x->∃v,w.cell? ⟨b,o+(i*sz+j),none⟩=some v/\cN P w D ι x v)->
   ∃news:List Value,news.length=ys.length*sz/\(∀j v,news[j]? =some v->w.cell? ⟨b,o+j,none⟩=some v)/\fc P w D ι ys.flatten news.toArray/\∀v∈news,v.oneCell'=true:=by
  intro b o _ h
  have hlen:=Jj hl
  have at_:∀k,k<ys.length*sz->∃x,ys.flatten[k]? =some x/\∃v,w.cell? ⟨b,o+k,none⟩=some v/\cN P w D ι x v:=by
   intro k hk
   have je:0<sz:=by
    rcases Nat.eq_zero_or_pos sz with h0|h0
    ·subst h0;simp at hk
    ·exact h0
   have hi:k / sz<ys.length:=Nat.div_lt_of_lt_mul (by rw[Nat.mul_comm];exact hk)
   have hj:k % sz<sz:=Nat.mod_lt _ je
   have dy:=List.getElem?_eq_getElem hi
   have gW:k % sz<ys[k / sz].length:=by rw[hl _ (List.getElem_mem hi)];exact hj
   have hx:=List.getElem?_eq_getElem gW
   have e:k / sz*sz+k % sz=k:=by rw[Nat.mul_comm];exact Nat.div_add_mod _ _
   refine⟨_,by rw[<-flat_get hl dy hx,e],?_⟩
   obtain⟨v,hv,me⟩:=h _ _ _ _ dy hx
   rw[e]at hv
   exact⟨v,hv,me⟩
  let news:=(List.range (ys.length*sz)).map fun k=>(w.cell? ⟨b,o+k,none⟩).getD undef
  have hn:∀k,k<ys.length*sz->∀v,w.cell? ⟨b,o+k,none⟩=some v->news[k]? =some v:=fun k hk v hv=>by
   simp only[news,List.getElem?_map,List.getElem?_range hk,Option.map_some,hv,Option.getD_some]
  have hR:fc P w D ι ys.flatten news.toArray:=⟨by simp[news,hlen],fun j x hx=>by
   have gW:=(List.getElem?_eq_some_iff.1 hx).1
   rw[hlen]at gW
   obtain⟨x',ug,v,hv,me⟩:=at_ j gW
   rw[hx]at ug;injection ug with ug;subst ug
   exact⟨v,by simpa using hn j gW v hv,me⟩⟩
  refine⟨news,by simp[news],fun j v hj=>?_,hR,?_⟩
  ·have gW:j<ys.length*sz:=by have:=(List.getElem?_eq_some_iff.1 hj).1;simpa[news]using this
   obtain⟨x,_,v',oI,_⟩:=at_ j gW
   rw[hn j gW v' oI]at hj
   injection hj with hj
   rw[<-hj];exact oI
  ·have:=CX hR (fun x hx=>by
    obtain⟨c,hc,Wb⟩:=List.mem_flatten.1 hx
    exact hf c hc x Wb)
   simpa using this
 unfold br at hy
 split at hy
 ·simp at hy;subst hy
  exact⟨none,0,jZ hr,.inl rfl⟩
 ·rename_i rows
  simp at hy;subst hy
  obtain⟨A,c,he,_,_,h3⟩:=xb hr
  refine⟨A,c,he,?_⟩
  rcases h3 with h3|⟨b,oo,sz',vs,rfl,hD,Lu,_,hc,hi⟩
  ·exact .inl h3
  ·by_cases h0:rows=[]
   ·exact .inl h0
   ·have Ak:sz'=sz:=by
     cases rows with
     |nil=>exact(h0 rfl).elim
     |cons c r=>rw[<-Lu c (by simp),hl c (by simp)]
    subst Ak
    obtain⟨news,q1,q2,q3,q4⟩:=fin b oo h0 (fun i j cs x dy hx=>⟨_,hc i j (List.getElem?_eq_some_iff.1 dy).1 (by rw[<-Lu cs (List.mem_of_getElem? dy)];exact(List.getElem?_eq_some_iff.1 hx).1),.eO _ _ (hi i j cs x dy hx)⟩)
    exact .inr ⟨b,oo,news,rfl,q1,q2,q3,q4⟩
 ·rename_i i off len
  simp only[Option.bind_eq_some_iff]at hy
  obtain⟨r,hg,hy⟩:=hy
  split at hy
  ·rename_i hle
   simp at hy;subst hy
   obtain⟨oo,cap,B,he,hB,h1,h2,h3,h4,hk⟩:=jx hr
   obtain⟨B',dG,R,_,_⟩:=S.row i r hg
   rw[hB]at dG;injection dG with dG;subst dG
   replace R:=R.row hk
   have hlen:((r.rows.drop off).take len).length=len:=by simp;omega
   refine⟨some ⟨B.b,oo,none⟩,cap,by rw[hlen];exact he,?_⟩
   by_cases h0:(r.rows.drop off).take len=[]
   ·exact .inl h0
   ·have Ak:r.sz=sz:=by
     cases hq:(r.rows.drop off).take len with
     |nil=>exact(h0 hq).elim
     |cons c q=>
      have hm:c∈(r.rows.drop off).take len:=by rw[hq];simp
      rw[<-hl c hm,R.len c (List.mem_of_mem_drop (List.mem_of_mem_take hm))]
    have hlp:0<len:=by rw[<-hlen];exact List.length_pos_iff.2 h0
    have Dm:oo=off*B.sz:=by rcases h2 with h2|h2<;>omega
    obtain⟨news,q1,q2,q3,q4⟩:=fin B.b oo h0 (fun i2 j cs x dy hx=>by
     rw[List.getElem?_take]at dy
     split at dy
     ·rw[List.getElem?_drop]at dy
      obtain⟨v,hv,me⟩:=R.at_ _ _ _ _ dy hx
      refine⟨v,?_,me⟩
      rw[Dm,R.sz,<-Ak]
      rw[Nat.add_mul]at hv
      rw[<-Nat.add_assoc]
      exact hv
     ·simp at dy)
    exact .inr ⟨B.b,oo,news,rfl,q1,q2,q3,q4⟩
  ·simp at hy
 ·simp at hy
theorem pC {t ty e:TypeId} {i:TypeInfo} (ht:P.underlying t=some (.slice e)) (hi:P.info? e=some i) (A:Option Addr) (n c:Nat) (hn:n<=c) (B:Option Addr) (d:Nat):
  (Builtin.append_ #[t,t] ty #[.slice A n c,.slice B 0 d]).run P w=.ok (.slice A n c) w:=by
 have hf:(Builtin.firstCells i.size 0 (.slice B 0 d)).run P w=.ok #[] w:=by
  cases B<;>simp[Builtin.firstCells,loadCells,loadCellsFrom]
 cases A with
 |none=>simp[Builtin.append_,run_underlying ht,sizeOf,typeInfo,hi,Builtin.lenOf,hn,hf]
 |some A=>simp[Builtin.append_,run_underlying ht,sizeOf,typeInfo,hi,Builtin.lenOf,hn,hf,storeCells]
theorem yj {t ty e T:TypeId} {i:TypeInfo} (ht:P.underlying t=some (.slice e)) (hi:P.info? e=some i) (b sC E9:Nat) (cur:Array Value) (hg:w.heap[b]? =some (.cells cur T (0,0)))
  (x:Addr) (m c:Nat) (news:List Value) (hl:news.length=m*i.size) (SY:∀j u,news[j]? =some u->w.cell? (x.add j)=some u) (h1:∀u∈news,u.oneCell'=true)
  (gp:sC+m<=E9) (Cc:sC*i.size+news.length<=cur.size):
  (Builtin.append_ #[t,t] ty #[.slice (some ⟨b,0,none⟩) sC E9,.slice (some x) m c]).run P w=
   .ok (.slice (some ⟨b,0,none⟩) (sC+m) E9) (w.setRow b (cur.toList.take (sC*i.size)++news++cur.toList.drop (sC*i.size+news.length)).toArray):=by
 have hf:=run_firstCells_some (P:=P) w i.size m x m c news hl SY
 have dR:=run_storeCells_at P b (sC*i.size) T news 0 cur w hg (by simpa using Cc) h1
 simp only[Nat.add_zero]at dR
 simp[Builtin.append_,run_underlying ht,sizeOf,typeInfo,hi,Builtin.lenOf,gp,hf,kU,dR]
theorem Ca (w:World) (HC CU:Nat) (e:TypeId) (h:HC<=dF):HC<=grownCap w HC CU e/\grownCap w HC CU e<=maxLen:=by
 unfold dF at h
 simp only[grownCap,Question.cut,maxLen]
 have:=Nat.mod_lt (w.tape w.drawn (.appendCap HC CU e)) (show 0<2 ^ 63-HC by omega)
 omega
theorem gx {x y:Operand} {t:TypeId} {u:Value} (ho:o.op=.call {callee:=.builtin .append,args:= #[x,y],argTypes:= #[t,t]}) (h:(Builtin.append_ #[t,t] o.type #[a.eval x,a.eval y]).run P w=.ok u w'):(execOp a.eval o).run P w=.ok (.value u) w':=by
 simp only[execOp,ho,resolve,Sem.run_bind,Sem.run_pure,Result.andThen_ok,invoke,builtin]
 simp only[List.map_toArray,List.map_cons,List.map_nil]
 rw[h];rfl
theorem C6 {T:TypeId} (S:gK P hs D ι g w) (cells:Array Value) (hn:ι id=none) (B:sU):Step hs D ι w D (kX ι id B) (w.drew.alloc (.cells cells T)):=
 Step.stay S (fun k hk=>by show(w.heap.push _)[k]? = _;rw[Array.getElem?_push,if_neg ae]) (by show _<=(w.heap.push _).size;simp) rfl rfl rfl (fun _ h=>h) (fun _ h=>.inl h) (ga hn)
theorem I9 {x y:Operand} {x' y':O} {t e:TypeId} {m:Nat} {z:List K} {i:TypeInfo} {ys:List (List AV)} {g':Rows} (S:gK P hs D ι g w) (E:cE P w D ι env a) (hn:ι id=none) (ho:o.op=.call {callee:=.builtin .append,args:= #[x,y],argTypes:= #[t,t]})
  (ht:P.underlying t=some (.slice e)) (fy:eG P e=some (m+1)) (hz:kd P e=some z) (hi:P.info? e=some i) (hby:i.bytes<=32768) (hx:cO P x=some x') (hy:cO P y=some y') (Dv:br g (dh env y')=some ys)
  (hv:bc g id (m+1) (dh env x') ys=some (v,g')):Dy P hs a o w D ι id v g':=by
 have rx:=dv E hx
 have ry:=dv E hy
 obtain⟨it,zv,qD,wI,Rw,hm,F3⟩:=kA hz
 rw[hi]at qD;injection qD with qD;subst qD
 have j7:i.size=m+1:=by simpa[eG,hi]using fy
 have fits:∀n,n<=dF->n*i.bytes<=140737488355328:=fun n h=>by
  unfold dF at h
  have:=Nat.mul_le_mul h hby
  omega
 have e63:∀n,n<=dF->(n:Int)<=9223372036854775807:=fun n h=>by unfold dF at h;omega
 have same:∀(w1:World) (cells:Array Value),w1=w.drew.alloc (.cells cells e)->w1.heap=w.heap.push (.cells cells e (0,0)):=fun w1 cells h=>by subst h;rfl
 have RI:∀l:List (List AV),(l.all fun c=>c.length==m+1&&c.all AV.cell)=true->(∀c∈l,c.length=m+1)/\∀c∈l,∀b∈c,b.cell=true:=fun l h=>by
  rw[List.all_eq_true]at h
  refine⟨fun c hc=>?_,fun c hc b hb=>?_⟩
  ·have:=h c hc;simp at this;exact this.1
  ·have:=h c hc;simp at this;exact this.2 b hb
 unfold bc at hv
 split at hv
 ·rename_i hb
  rw[hb]at rx
  have ex:=jZ rx
  split at hv
  ·simp at hv
   obtain⟨rfl,rfl⟩:=hv
   obtain⟨A,c,ey,_⟩:=su (sz:=m+1) S ry Dv (fun c h=>by cases h) (fun c h=>by cases h)
   refine⟨_,w,ι,.inl (gx ho (by rw[ex,ey];exact pC ht hi none 0 0 (Nat.le_refl _) A c)),Step.refl _ _ _ _,S,.eO _ _ .ck,fun _ _=>rfl⟩
  ·rename_i y0 yr
   split at hv
   ·rename_i hc
    simp only[Option.some.injEq,Prod.mk.injEq]at hv
    obtain⟨rfl,rfl⟩:=hv
    obtain⟨hl,hf⟩:=RI _ hc.2
    obtain⟨A,c,ey,h2⟩:=su (sz:=m+1) S ry Dv hl hf
    rcases h2 with h2|⟨b,oo,news,rfl,q1,q2,q3,q4⟩
    ·cases h2
    have jf:=run_append_nil (P:=P) w t o.type e i zv ht hi wI ⟨b,oo,none⟩ (y0::yr).length c news (by rw[j7];exact q1) (fun j v hj=>by rw[kU];exact q2 j v hj) (by simp) (e63 _ hc.1) (by have:=fits _ hc.1;omega)
    obtain⟨g1,g2⟩:=Ca w (y0::yr).length 0 e hc.1
    have dy:(news.toArray++Builtin.zeroCells zv.cells (grownCap w (y0::yr).length 0 e-(y0::yr).length)).size=grownCap w (y0::yr).length 0 e*(m+1):=by
     rw[Array.size_append,size_zeroCells,Rw,j7]
     simp only[List.size_toArray,q1]
     rw[<-Nat.add_mul];congr 1;omega
    have S1:=S.alloc (w':=w.drew.alloc (.cells (news.toArray++Builtin.zeroCells zv.cells (grownCap w (y0::yr).length 0 e-(y0::yr).length)) e)) (r:=⟨true,m+1,y0::yr⟩) rfl hn rfl (by rw[dy];exact Nat.mul_le_mul_right _ g1) hl hf
     (fun k j cs b2 hk hj=>by
      obtain⟨u,hu,xX⟩:=q3.2 _ _ (flat_get hl hk hj)
      refine⟨u,?_,xX⟩
      have dO:=(Array.getElem?_eq_some_iff.1 hu).1
      dsimp only
      rw[Array.getElem?_append_left dO];exact hu)
    have dR:=C6 (T:=e) S (news.toArray++Builtin.zeroCells zv.cells (grownCap w (y0::yr).length 0 e-(y0::yr).length)) hn ⟨w.heap.size,m+1,(news.toArray++Builtin.zeroCells zv.cells (grownCap w (y0::yr).length 0 e-(y0::yr).length)).size,none⟩
    refine⟨_,_,_,.inl (gx ho (by rw[ex,ey];exact jf)),dR,S1,?_,fun _ h=>gE h⟩
    refine .own _ _ _ _ _ _ (eL _ _ _) rfl g1 (.inr (by simp)) ?_ g2
    dsimp only;rw[dy];simp
   ·simp at hv
 ·rename_i i0 len hb
  rw[hb]at rx
  simp only[Option.bind_eq_some_iff]at hv
  obtain⟨r,hg,hv⟩:=hv
  split at hv
  ·rename_i hc
   obtain⟨c1,c2,c3,c4,c5⟩:=hc
   simp only[Option.some.injEq,Prod.mk.injEq]at hv
   obtain⟨rfl,rfl⟩:=hv
   obtain⟨hl,hf⟩:=RI _ c5
   obtain⟨A,c,ey,h2⟩:=su (sz:=m+1) S ry Dv hl hf
   obtain⟨oo,cap,B,ex,hB,h1,Dm,h3,h4,hk⟩:=jx rx
   obtain⟨B',dG,R,kJ,kZ⟩:=S.row _ _ hg
   rw[hB]at dG;injection dG with dG;subst dG
   replace R:=R.row hk
   have FR:B.sz=m+1:=R.sz.trans c2
   have Aw:∀cs∈r.rows++ys,cs.length=m+1:=fun cs dy=>by
    rcases List.mem_append.1 dy with h|h
    ·rw[<-c2];exact R.len cs h
    ·exact hl cs h
   have NU:∀cs∈r.rows++ys,∀b∈cs,b.cell=true:=fun cs dy=>by
    rcases List.mem_append.1 dy with h|h
    ·exact R.flat cs h
    ·exact hf cs h
   rcases h2 with rfl|⟨yb,yo,news,rfl,q1,q2,q3,q4⟩
   ·have Hf:=S.rename hg c1 hB hn
    refine⟨_,w,kX ι id B,.inl (gx ho (by rw[ex,ey];exact pC ht hi _ _ _ h1 A c)),⟨Below.refl _ _,fun _ _=>rfl,fun _ h=>h,ga hn,fun _ h=>.inl h⟩,?_,?_,fun _ h=>gE h⟩
    ·have:(⟨true,m+1,r.rows++[]⟩:Row)=r:=by cases r;simp_all
     rw[this];exact Hf
    ·simp only[List.length_nil,Nat.add_zero]
     exact .own _ _ _ _ _ B (eL _ _ _) hk h1 Dm h3 h4
   ·obtain⟨cur,T,hblk,hC,wj⟩:=R.cur
    by_cases gp:len+ys.length<=cap
    ·have Ur:ys≠[]->oo=0:=fun h=>by
      rcases Dm with Dm|Dm
      ·have:=List.length_pos_iff.2 h;omega
      ·simpa using Dm
     by_cases hy0:ys=[]
     ·subst hy0
      have Hf:=S.rename hg c1 hB hn
      refine⟨_,w,kX ι id B,.inl (gx ho (by rw[ex,ey];exact pC ht hi _ _ _ h1 _ c)),⟨Below.refl _ _,fun _ _=>rfl,fun _ h=>h,ga hn,fun _ h=>.inl h⟩,?_,?_,fun _ h=>gE h⟩
      ·have:(⟨true,m+1,r.rows++[]⟩:Row)=r:=by cases r;simp_all
       rw[this];exact Hf
      ·simp only[List.length_nil,Nat.add_zero]
       exact .own _ _ _ _ _ B (eL _ _ _) hk h1 Dm h3 h4
     have ho0:=Ur hy0
     subst ho0
     have Cc:len*i.size+news.length<=cur.size:=by
      rw[j7,q1,hC,<-Nat.add_mul]
      refine Nat.le_trans ?_ h3
      rw[FR,Nat.zero_add]
      exact Nat.mul_le_mul_right _ gp
     have jf:=yj (ty:=o.type) ht hi B.b len cap cur hblk ⟨yb,yo,none⟩ ys.length c news (by rw[j7];exact q1) (fun j v hj=>by rw[kU];exact q2 j v hj) q4 gp Cc
     have mc:cur.toList.length=cur.size:=Array.length_toList
     simp only[j7]at jf Cc
     obtain⟨P1,P2⟩:=S.put (r':=⟨true,m+1,r.rows++ys⟩) hg c1 hB hblk (cur':=(cur.toList.take (len*(m+1))++news++cur.toList.drop (len*(m+1)+news.length)).toArray) (by simp only[List.size_toArray,List.length_append,List.length_take,List.length_drop,mc];omega) rfl c2.symm
      (by dsimp only;rw[List.length_append,<-c3,<-FR];refine Nat.le_trans (Nat.mul_le_mul_right _ gp) (Nat.le_trans (by simp) h3)) Aw NU (fun k j cs b2 hk hj=>by
       simp only[List.getElem?_toArray]
       have gW:j<m+1:=by rw[<-Aw cs (List.mem_of_getElem? hk)];exact(List.getElem?_eq_some_iff.1 hj).1
       rw[c2]
       by_cases mQ:k<r.rows.length
       ·rw[List.getElem?_append_left mQ]at hk
        have h2:k*(m+1)+j<len*(m+1):=ko ae gW
        rw[List.append_assoc,List.getElem?_append_left (by simp only[List.length_take,mc];omega),List.getElem?_take,if_pos h2]
        have:=wj k j cs b2 hk hj
        rw[c2]at this;simpa using this
       ·rw[List.getElem?_append_right ae]at hk
        have uK:=(List.getElem?_eq_some_iff.1 hk).1
        have mz:len*(m+1)<=k*(m+1):=Nat.mul_le_mul_right _ ae
        have pg:k*(m+1)+j-len*(m+1)=(k-r.rows.length)*(m+1)+j:=by
         rw[<-c3,Nat.sub_mul];omega
        obtain⟨u,hu,xX⟩:=q3.2 _ _ (flat_get hl hk hj)
        refine⟨u,?_,xX⟩
        have Dt:news[(k-r.rows.length)*(m+1)+j]? =some u:=by simpa using hu
        have dO:=(List.getElem?_eq_some_iff.1 Dt).1
        rw[List.append_assoc,List.getElem?_append_right (by simp only[List.length_take,mc];omega),List.getElem?_append_left (by simp only[List.length_take,mc];omega)]
        rw[<-Dt]
        congr 1
        simp only[List.length_take,mc]
        omega)
     have ei:bU (cw (bU g i0 ⟨true,m+1,r.rows++ys⟩) i0) id ⟨true,m+1,r.rows++ys⟩=bU (cw g i0) id ⟨true,m+1,r.rows++ys⟩:=by
      funext q;simp only[bU,cw]
      by_cases h:q=id<;>by_cases h':q=i0<;>simp[h,h']
     have Hf:=P1.rename (i:=i0) (id:=id) (r:=⟨true,m+1,r.rows++ys⟩) (by simp[bU]) rfl hB hn
     rw[ei]at Hf
     refine⟨_,_,_,.inl (gx ho (by rw[ex,ey];exact jf)),P2.trans ⟨Below.refl _ _,fun _ _=>rfl,fun _ h=>h,ga hn,fun _ h=>.inl h⟩,Hf,?_,fun _ h=>gE h⟩
     exact .own _ _ _ _ _ B (eL _ _ _) hk gp (.inr (by simp)) h3 h4
    ·
     have holds:∃uN:List Value,uN.length=len*(m+1)/\(∀j v,uN[j]? =some v->w.cell? ⟨B.b,oo+j,none⟩=some v)/\fc P w D ι r.rows.flatten uN.toArray:=by
      obtain⟨A2,c2',e2,h2⟩:=su (sz:=m+1) (u:=.slice (some ⟨B.b,oo,none⟩) len cap) S (.own i0 0 len oo cap B hB hk h1 Dm h3 h4) (ys:=r.rows) (by simp[br,hg,c3]) (fun cs h=>by rw[<-c2];exact R.len cs h) R.flat
      rcases h2 with h2|⟨b2,o2,uN,rfl,p1,p2,p3,_⟩
      ·refine⟨[],by simp[c3,h2],fun j v h=>by simp at h,by rw[h2];exact⟨rfl,fun j a h=>by simp at h⟩⟩
      ·injection e2 with e2 _ _
       injection e2 with e2
       injection e2 with Lh e22 _
       subst Lh;subst e22
       exact⟨uN,by rw[p1,c3],p2,p3⟩
     obtain⟨uN,p1,p2,p3⟩:=holds
     have jf:=run_append_grow (P:=P) w t o.type e i zv ht hi wI ⟨B.b,oo,none⟩ len cap uN (by rw[j7];exact p1) (fun j v hj=>by rw[kU];exact p2 j v hj) ⟨yb,yo,none⟩ ys.length c news (by rw[j7];exact q1) (fun j v hj=>by rw[kU];exact q2 j v hj) ae (e63 _ c4) (growslice_fits ae (fits _ c4))
     obtain⟨g1,g2⟩:=Ca w (len+ys.length) cap e c4
     have dy:(uN.toArray++news.toArray++Builtin.zeroCells zv.cells (grownCap w (len+ys.length) cap e-(len+ys.length))).size=grownCap w (len+ys.length) cap e*(m+1):=by
      rw[Array.size_append,Array.size_append,size_zeroCells,Rw,j7]
      simp only[List.size_toArray,q1,p1]
      rw[<-Nat.add_mul,<-Nat.add_mul];congr 1;omega
     have S1:=(S.kill i0).alloc (id:=id) (w':=w.drew.alloc (.cells (uN.toArray++news.toArray++Builtin.zeroCells zv.cells (grownCap w (len+ys.length) cap e-(len+ys.length))) e)) (r:=⟨true,m+1,r.rows++ys⟩) rfl hn rfl (by dsimp only;rw[dy,List.length_append,<-c3];exact Nat.mul_le_mul_right _ g1) Aw NU
      (fun k j cs b2 hk hj=>by
       have Ms:=flat_get Aw hk hj
       rw[List.flatten_append]at Ms
       have hol:uN.length=r.rows.flatten.length:=by have:=p3.1;simpa using this
       dsimp only
       by_cases dO:k*(m+1)+j<r.rows.flatten.length
       ·rw[List.getElem?_append_left dO]at Ms
        obtain⟨u,hu,xX⟩:=p3.2 _ _ Ms
        refine⟨u,?_,xX⟩
        rw[Array.getElem?_append_left (by simp;omega),Array.getElem?_append_left (by simp;omega)];exact hu
       ·rw[List.getElem?_append_right ae]at Ms
        obtain⟨u,hu,xX⟩:=q3.2 _ _ Ms
        refine⟨u,?_,xX⟩
        have Cg:=(Array.getElem?_eq_some_iff.1 hu).1
        simp only[List.size_toArray]at Cg
        rw[Array.getElem?_append_left (by simp;omega),Array.getElem?_append_right (by simp;omega)]
        simp only[List.size_toArray,hol];exact hu)
     have dR:=C6 (T:=e) S (uN.toArray++news.toArray++Builtin.zeroCells zv.cells (grownCap w (len+ys.length) cap e-(len+ys.length))) hn ⟨w.heap.size,m+1,(uN.toArray++news.toArray++Builtin.zeroCells zv.cells (grownCap w (len+ys.length) cap e-(len+ys.length))).size,none⟩
     refine⟨_,_,_,.inl (gx ho (by rw[ex,ey];exact jf)),dR,S1,?_,fun _ h=>gE h⟩
     refine .own _ _ _ _ _ _ (eL _ _ _) rfl g1 (.inr (by simp)) ?_ g2
     dsimp only;rw[dy];simp
  ·simp at hv
 ·simp at hv
theorem lO {x:Operand} {t:TypeId} {u:Value} (ho:o.op=.call {callee:=.builtin .clear,args:= #[x],argTypes:= #[t]}) (h:(Builtin.clear_ #[t] o.type #[a.eval x]).run P w=.ok u w'):(execOp a.eval o).run P w=.ok (.value u) w':=by
 simp only[execOp,ho,resolve,Sem.run_bind,Sem.run_pure,Result.andThen_ok,invoke,builtin]
 simp only[List.map_toArray,List.map_cons,List.map_nil]
 rw[h];rfl
theorem Ma {x:Operand} {x':O} {t e:TypeId} {m:Nat} {z:List K} {g':Rows} (S:gK P hs D ι g w) (E:cE P w D ι env a) (ho:o.op=.call {callee:=.builtin .clear,args:= #[x],argTypes:= #[t]})
  (ht:P.underlying t=some (.slice e)) (fy:eG P e=some (m+1)) (hz:kd P e=some z) (hx:cO P x=some x') (hv:bL g z (dh env x')=some g'):Dy P hs a o w D ι id .undef g':=by
 have rx:=dv E hx
 obtain⟨it,zv,hi,wI,Rw,hm,F3⟩:=kA hz
 have j7:it.size=m+1:=by simpa[eG,hi]using fy
 unfold bL at hv
 split at hv
 ·rename_i hb
  rw[hb]at rx
  simp at hv;subst hv
  refine⟨undef,w,ι,.inl (lO ho (by rw[jZ rx];simp only[Builtin.clear_,Sem.run_bind];simp[run_underlying ht,undef])),Step.refl _ _ _ _,S,cN.undef,fun _ _=>rfl⟩
 ·rename_i i off len hb
  rw[hb]at rx
  simp only[Option.bind_eq_some_iff]at hv
  obtain⟨r,hg,hv⟩:=hv
  split at hv
  ·rename_i hc
   obtain⟨c1,c2,c3⟩:=hc
   simp only[Option.some.injEq]at hv;subst hv
   obtain⟨oo,cap,B,ex,hB,h1,h2,h3,h4,hk⟩:=jx rx
   obtain⟨B',dG,R,kJ,kZ⟩:=S.row _ _ hg
   rw[hB]at dG;injection dG with dG;subst dG
   replace R:=R.row hk
   obtain⟨cur,T,hblk,hC,wj⟩:=R.cur
   by_cases h0:len=0
   ·subst h0
    have e1:({r with rows:=r.rows.take off++List.replicate 0 (z.map K.av)++r.rows.drop (off+0)}:Row)=r:=by cases r;simp
    rw[e1]
    have e2:bU g i r=g:=by
     funext q;unfold bU;split
     ·rename_i h;rw[h,hg]
     ·rfl
    rw[e2]
    refine⟨undef,w,ι,.inl (lO ho (by rw[ex];simp only[Builtin.clear_,Sem.run_bind];simp[run_underlying ht,undef])),Step.refl _ _ _ _,S,cN.undef,fun _ _=>rfl⟩
   ·have Ds:oo=off*B.sz:=by rcases h2 with h2|h2<;>omega
    have FR:B.sz=m+1:=by rw[R.sz,c2,F3,j7]
    have y7:r.sz=m+1:=by rw[<-R.sz,FR]
    have Te:zv.cells.size=m+1:=by rw[Rw,j7]
    have za:(Builtin.zeroCells zv.cells len).toList.length=len*(m+1):=by rw[Array.length_toList,size_zeroCells,Te]
    have Td:∀k,k<len*(m+1)->∃c,z[k % z.length]? =some c/\(Builtin.zeroCells zv.cells len).toList[k]? =some c.val:=fun k hk=>by
     obtain⟨c,qk,Af⟩:=pJ (n:=len*zv.cells.size) hm (by rw[F3,j7];omega) k (by rw[Te];exact hk)
     exact⟨c,qk,by rw[Array.getElem?_toList];exact Af⟩
    have hbound:(off+len)*(m+1)<=r.rows.length*(m+1):=Nat.mul_le_mul_right _ c3
    have Cd:=R.fits
    rw[y7]at Cd
    have Vy:(off+len)*(m+1)=off*(m+1)+len*(m+1):=Nat.add_mul _ _ _
    have dR:=run_storeCells_at P B.b oo T (Builtin.zeroCells zv.cells len).toList 0 cur w hblk (by rw[za,hC,Ds,FR];omega) (by
     intro v hv
     obtain⟨k,hk,rfl⟩:=List.getElem_of_mem hv
     obtain⟨c,_,Af⟩:=Td k (by rw[<-za];exact hk)
     rw[List.getElem?_eq_getElem hk]at Af
     injection Af with Af
     rw[Af];cases c<;>rfl)
    simp only[Nat.add_zero]at dR
    have mc:cur.toList.length=cur.size:=Array.length_toList
    obtain⟨P1,P2⟩:=S.put (r':={r with rows:=r.rows.take off++List.replicate len (z.map K.av)++r.rows.drop (off+len)}) hg c1 hB hblk (cur':=(cur.toList.take oo++(Builtin.zeroCells zv.cells len).toList++cur.toList.drop (oo+(Builtin.zeroCells zv.cells len).toList.length)).toArray)
     (by simp only[List.size_toArray,List.length_append,List.length_take,List.length_drop,mc,za];rw[Ds,FR];omega) c1 rfl (by
      have:(r.rows.take off++List.replicate len (z.map K.av)++r.rows.drop (off+len)).length=r.rows.length:=by simp;omega
      dsimp only;rw[this];exact R.fits) (fun cs dy=>by
      rcases List.mem_append.1 dy with h|h
      ·rcases List.mem_append.1 h with h|h
       ·exact R.len cs (List.mem_of_mem_take h)
       ·rw[List.eq_of_mem_replicate h];simp[c2]
      ·exact R.len cs (List.mem_of_mem_drop h)) (fun cs dy b hb=>by
      rcases List.mem_append.1 dy with h|h
      ·rcases List.mem_append.1 h with h|h
       ·exact R.flat cs (List.mem_of_mem_take h) b hb
       ·rw[List.eq_of_mem_replicate h]at hb
        obtain⟨c,_,rfl⟩:=List.mem_map.1 hb;exact c.nG
      ·exact R.flat cs (List.mem_of_mem_drop h) b hb) (fun k j cs b hk hj=>by
      simp only[List.getElem?_toArray]
      rw[y7]
      rw[Ds,FR,za]
      by_cases re:k<off
      ·rw[List.append_assoc,List.getElem?_append_left (by simp;omega),List.getElem?_take,if_pos re]at hk
       have gW:j<m+1:=by rw[<-y7,<-R.len cs (List.mem_of_getElem? hk)];exact(List.getElem?_eq_some_iff.1 hj).1
       have h2:=ko re gW
       rw[List.append_assoc,List.getElem?_append_left (by simp only[List.length_take,mc];omega),List.getElem?_take,if_pos h2]
       have:=wj k j cs b hk hj
       rw[y7]at this;simpa using this
      ·by_cases uK:k<off+len
       ·rw[List.append_assoc,List.getElem?_append_right (by simp;omega),List.getElem?_append_left (by simp;omega)]at hk
        have ij:=List.eq_of_mem_replicate (List.mem_of_getElem? hk)
        subst ij
        simp only[List.getElem?_map,Option.map_eq_some_iff]at hj
        obtain⟨q,hq,rfl⟩:=hj
        have gW:=(List.getElem?_eq_some_iff.1 hq).1
        rw[F3,j7]at gW
        have mz:off*(m+1)<=k*(m+1):=Nat.mul_le_mul_right _ ae
        have pg:k*(m+1)+j-off*(m+1)=(k-off)*(m+1)+j:=by rw[Nat.sub_mul];omega
        have Cg:(k-off)*(m+1)+j<len*(m+1):=ko ae gW
        rw[List.append_assoc,List.getElem?_append_right (by simp only[List.length_take,mc];omega),List.getElem?_append_left (by simp only[List.length_take,mc,za];omega)]
        obtain⟨c,qk,Af⟩:=Td _ Cg
        rw[F3,j7,Nat.mul_comm (k-off),Nat.mul_add_mod,Nat.mod_eq_of_lt gW,hq]at qk
        injection qk with qk;subst qk
        refine⟨q.val,?_,w8 q⟩
        rw[<-Af]
        congr 1
        simp only[List.length_take,mc];omega
       ·rw[List.getElem?_append_right (by simp;omega)]at hk
        simp only[List.length_append,List.length_take,List.length_replicate,List.getElem?_drop]at hk
        rw[show off+len+(k-(min off r.rows.length+len))=k by omega]at hk
        have mQ:=(List.getElem?_eq_some_iff.1 hk).1
        have mz:(off+len)*(m+1)<=k*(m+1):=Nat.mul_le_mul_right _ ae
        rw[List.getElem?_append_right (by simp only[List.length_append,List.length_take,mc,za];omega)]
        simp only[List.length_append,List.length_take,mc,za,List.getElem?_drop]
        rw[show off*(m+1)+len*(m+1)+(k*(m+1)+j-(min (off*(m+1)) cur.size+len*(m+1)))=k*(m+1)+j by omega]
        have:=wj k j cs b hk hj
        rw[y7]at this;simpa using this)
    refine⟨undef,_,ι,.inl (lO ho ?_),P2,P1,cN.undef,fun _ _=>rfl⟩
    rw[ex]
    cases len with
    |zero=>exact(h0 rfl).elim
    |succ len=>
     simp only[Builtin.clear_,Sem.run_bind]
     simp[run_underlying ht,zeroValue,typeInfo,hi,wI,dR,undef]
  ·simp at hv
 ·simp at hv
theorem HO {dT sT ty e:TypeId} {it:TypeInfo} (hu:P.underlying dT=some (.slice e)) (hi:P.info? e=some it) (A B:Option Addr) (sC E9 GN O5:Nat) (h0:Nat.min sC GN=0):
  (Builtin.copy_ #[dT,sT] ty #[.slice A GN O5,.slice B sC E9]).run P w=.ok (goInt 0) w:=by
 cases A<;>cases B<;>simp[Builtin.copy_,run_underlying hu,Builtin.lenOf,Builtin.firstCells,sizeOf,typeInfo,hi,h0,storeCells,loadCells,loadCellsFrom]
theorem HP {dT sT ty e:TypeId} {it:TypeInfo} (hu:P.underlying dT=some (.slice e)) (hi:P.info? e=some it) (A B:Addr) (sC E9 GN O5:Nat) (cs:List Value) (hn:cs.length=Nat.min sC GN*it.size) (hl:(loadCells B cs.length).run P w=.ok cs.toArray w) (hs:(storeCells A cs).run P w=.ok () w'):
  (Builtin.copy_ #[dT,sT] ty #[.slice (some A) GN O5,.slice (some B) sC E9]).run P w=.ok (goInt (Nat.min sC GN)) w':=by
 simp[Builtin.copy_,run_underlying hu,Builtin.lenOf,Builtin.firstCells,sizeOf,typeInfo,hi,<-hn,hl,hs]
theorem qH {x y:Operand} {t t2:TypeId} {u:Value} (ho:o.op=.call {callee:=.builtin .copy,args:= #[x,y],argTypes:= #[t,t2]}) (h:(Builtin.copy_ #[t,t2] o.type #[a.eval x,a.eval y]).run P w=.ok u w'):(execOp a.eval o).run P w=.ok (.value u) w':=by
 simp only[execOp,ho,resolve,Sem.run_bind,Sem.run_pure,Result.andThen_ok,invoke,builtin]
 simp only[List.map_toArray,List.map_cons,List.map_nil]
 rw[h];rfl
theorem O6 {x y:Operand} {x' y':O} {t t2 e:TypeId} {m:Nat} {ys:List (List AV)} {v:AV} {g':Rows} (S:gK P hs D ι g w) (E:cE P w D ι env a) (ho:o.op=.call {callee:=.builtin .copy,args:= #[x,y],argTypes:= #[t,t2]})
  (ht:P.underlying t=some (.slice e)) (fy:eG P e=some (m+1)) (hx:cO P x=some x') (hy:cO P y=some y') (Dv:br g (dh env y')=some ys) (hv:Gl g (m+1) (dh env x') ys=some (v,g')):Dy P hs a o w D ι id v g':=by
 have rx:=dv E hx
 have ry:=dv E hy
 obtain⟨it,hi,j7⟩:∃it,P.info? e=some it/\it.size=m+1:=by
  cases hq:P.info? e with
  |none=>simp[eG,hq]at fy
  |some it=>exact⟨it,rfl,by simpa[eG,hq]using fy⟩
 unfold Gl at hv
 split at hv
 ·rename_i i off len hb
  rw[hb]at rx
  simp only[Option.bind_eq_some_iff]at hv
  obtain⟨r,hg,hv⟩:=hv
  split at hv
  ·rename_i hc
   obtain⟨c1,c2,c3,c4⟩:=hc
   simp only[Option.some.injEq,Prod.mk.injEq]at hv
   obtain⟨rfl,rfl⟩:=hv
   rw[List.all_eq_true]at c4
   have hl:∀c∈ys,c.length=m+1:=fun c hc=>by have:=c4 c hc;simp at this;exact this.1
   have hf:∀c∈ys,∀b∈c,b.cell=true:=fun c hc b hb=>by have:=c4 c hc;simp at this;exact this.2 b hb
   obtain⟨oo,cap,B,ex,hB,h1,h2,h3,h4,hk⟩:=jx rx
   obtain⟨B',dG,R,kJ,kZ⟩:=S.row _ _ hg
   rw[hB]at dG;injection dG with dG;subst dG
   replace R:=R.row hk
   obtain⟨cur,T,hblk,hC,wj⟩:=R.cur
   obtain⟨A,sc,hu,hA⟩:=su S ry Dv hl hf
   by_cases h0:min ys.length len=0
   ·rw[h0]
    have e1:({r with rows:=r.rows.take off++ys.take 0++r.rows.drop (off+0)}:Row)=r:=by cases r;simp
    rw[e1]
    have e2:bU g i r=g:=by
     funext q;unfold bU;split
     ·rename_i h;rw[h,hg]
     ·rfl
    rw[e2]
    refine⟨goInt 0,w,ι,.inl (qH ho (by rw[ex,hu];exact HO ht hi _ _ _ _ _ _ h0)),Step.refl _ _ _ _,S,.eO _ _ (.int _ _),fun _ _=>rfl⟩
   ·rcases hA with rfl|⟨b,o2,news,rfl,VV,hsrc,hR,h1c⟩
    ·simp at h0
    have SV:Nat.min ys.length len=min ys.length len:=rfl
    have hky:min ys.length len<=ys.length:=Nat.min_le_left _ _
    have mQ:min ys.length len<=len:=Nat.min_le_right _ _
    generalize Lt:min ys.length len=kk at *
    have Ob:len≠0:=ae
    have Ds:oo=off*B.sz:=by rcases h2 with h2|h2<;>omega
    have FR:B.sz=m+1:=by rw[R.sz,c2]
    have y7:r.sz=m+1:=c2
    have Uk:kk*(m+1)<=ys.length*(m+1):=Nat.mul_le_mul_right _ hky
    have za:(news.take (kk*(m+1))).length=kk*(m+1):=by rw[List.length_take,VV];omega
    have hbound:(off+kk)*(m+1)<=r.rows.length*(m+1):=Nat.mul_le_mul_right _ ae
    have Cd:=R.fits
    rw[y7]at Cd
    have Vy:(off+kk)*(m+1)=off*(m+1)+kk*(m+1):=Nat.add_mul _ _ _
    have dR:=run_storeCells_at P B.b oo T (news.take (kk*(m+1))) 0 cur w hblk (by rw[za,hC,Ds,FR];omega) (fun v hv=>h1c v (List.mem_of_mem_take hv))
    have Un:=run_loadCells_list (P:=P) w ⟨b,o2,none⟩ (news.take (kk*(m+1))) (fun j v hj=>by
     rw[List.getElem?_take]at hj
     split at hj
     ·have:=hsrc j v hj
      cases j with
      |zero=>simpa[Addr.add]using this
      |succ j=>simpa[Addr.add]using this
     ·cases hj)
    simp only[Nat.add_zero]at dR
    have mc:cur.toList.length=cur.size:=Array.length_toList
    have Oh:(ys.take kk).length=kk:=by rw[List.length_take];omega
    obtain⟨P1,P2⟩:=S.put (r':={r with rows:=r.rows.take off++ys.take kk++r.rows.drop (off+kk)}) hg c1 hB hblk (cur':=(cur.toList.take oo++news.take (kk*(m+1))++cur.toList.drop (oo+(news.take (kk*(m+1))).length)).toArray)
     (by simp only[List.size_toArray,List.length_append,List.length_drop,mc,za];rw[List.length_take,mc,Ds,FR];omega) c1 rfl (by
      have:(r.rows.take off++ys.take kk++r.rows.drop (off+kk)).length=r.rows.length:=by simp;omega
      dsimp only;rw[this];exact R.fits) (fun cs dy=>by
      rcases List.mem_append.1 dy with h|h
      ·rcases List.mem_append.1 h with h|h
       ·exact R.len cs (List.mem_of_mem_take h)
       ·rw[hl cs (List.mem_of_mem_take h)];exact c2.symm
      ·exact R.len cs (List.mem_of_mem_drop h)) (fun cs dy b hb=>by
      rcases List.mem_append.1 dy with h|h
      ·rcases List.mem_append.1 h with h|h
       ·exact R.flat cs (List.mem_of_mem_take h) b hb
       ·exact hf cs (List.mem_of_mem_take h) b hb
      ·exact R.flat cs (List.mem_of_mem_drop h) b hb) (fun k j cs b hk hj=>by
      simp only[List.getElem?_toArray]
      rw[y7]
      rw[Ds,FR,za]
      by_cases re:k<off
      ·rw[List.append_assoc,List.getElem?_append_left (by simp;omega),List.getElem?_take,if_pos re]at hk
       have gW:j<m+1:=by rw[<-y7,<-R.len cs (List.mem_of_getElem? hk)];exact(List.getElem?_eq_some_iff.1 hj).1
       have h2:=ko re gW
       rw[List.append_assoc,List.getElem?_append_left (by simp only[List.length_take,mc];omega),List.getElem?_take,if_pos h2]
       have:=wj k j cs b hk hj
       rw[y7]at this;simpa using this
      ·by_cases uK:k<off+kk
       ·rw[List.append_assoc,List.getElem?_append_right (by simp;omega),List.getElem?_append_left (by simp;omega)]at hk
        simp only[List.length_take]at hk
        rw[show k-min off r.rows.length=k-off by omega,List.getElem?_take,if_pos ae]at hk
        have gW:j<m+1:=by rw[<-hl cs (List.mem_of_getElem? hk)];exact(List.getElem?_eq_some_iff.1 hj).1
        have mz:off*(m+1)<=k*(m+1):=Nat.mul_le_mul_right _ ae
        have pg:k*(m+1)+j-off*(m+1)=(k-off)*(m+1)+j:=by rw[Nat.sub_mul];omega
        have Cg:(k-off)*(m+1)+j<kk*(m+1):=ko ae gW
        rw[List.append_assoc,List.getElem?_append_right (by simp only[List.length_take,mc];omega),List.getElem?_append_left (by rw[za];simp only[List.length_take,mc];omega)]
        obtain⟨u,Oi,Rs⟩:=hR.2 ((k-off)*(m+1)+j) b (flat_get hl hk hj)
        refine⟨u,?_,Rs⟩
        rw[List.getElem?_take]
        simp only[List.length_take,mc]
        rw[show k*(m+1)+j-min (off*(m+1)) cur.size=(k-off)*(m+1)+j by omega,if_pos Cg]
        simpa using Oi
       ·rw[List.getElem?_append_right (by simp;omega)]at hk
        simp only[List.length_append,List.length_take,List.getElem?_drop]at hk
        rw[show off+kk+(k-(min off r.rows.length+min kk ys.length))=k by omega]at hk
        have mQ:=(List.getElem?_eq_some_iff.1 hk).1
        have mz:(off+kk)*(m+1)<=k*(m+1):=Nat.mul_le_mul_right _ ae
        rw[List.getElem?_append_right (by rw[List.length_append,za];simp only[List.length_take,mc];omega)]
        rw[List.getElem?_drop,List.length_append,za]
        simp only[List.length_take,mc]
        rw[show off*(m+1)+kk*(m+1)+(k*(m+1)+j-(min (off*(m+1)) cur.size+kk*(m+1)))=k*(m+1)+j by omega]
        have:=wj k j cs b hk hj
        rw[y7]at this;simpa using this)
    refine⟨goInt kk,_,ι,.inl (qH ho ?_),P2,P1,.eO _ _ (.int _ _),fun _ _=>rfl⟩
    rw[ex,hu]
    have:=HP (w:=w) (sT:=t2) (ty:=o.type) ht hi ⟨B.b,oo,none⟩ ⟨b,o2,none⟩ ys.length sc len cap _ (by rw[za,SV,j7]) Un dR
    rw[SV]at this
    exact this
  ·simp at hv
 ·simp at hv
end
end Go.Proofs.YtkbipfflibjfbaaGreat.V

namespace Go.Proofs.YtkbipfflibjfbaaGreat.V
open Go.RowKit
variable {P:Program} {w w':World} {D D' D2:Nat->Prop} {ι ι' ι2:Names}
section
variable {g:Rows} {hs:Nat}
theorem gO:∀{n:Nat} {l r:List AV},cQ g n l=some r->r.length=l.length/\∀(j:Nat) (b:AV),r[j]? =some b->∃a,l[j]? =some a/\fz g n a=some b
 |n,[],r,h=>by
  rw[cQ]at h;simp at h;subst h;simp
 |n,a::l,r,h=>by
  rw[cQ]at h
  split at h
  ·rename_i b hb
   simp only[Option.map_eq_some_iff]at h
   obtain⟨r',hr,rfl⟩:=h
   obtain⟨h1,h2⟩:=gO hr
   refine⟨by simp[h1],fun j c hj=>?_⟩
   cases j with
   |zero=>simp at hj;subst hj;exact⟨a,rfl,hb⟩
   |succ j=>simp at hj ⊢;exact h2 j c hj
  ·simp at h
theorem we:∀{n:Nat} {l r:List (List AV)},eK g n l=some r->r.length=l.length/\∀(j:Nat) (b:List AV),r[j]? =some b->∃a,l[j]? =some a/\cQ g n a=some b
 |n,[],r,h=>by
  rw[eK]at h;simp at h;subst h;simp
 |n,a::l,r,h=>by
  rw[eK]at h
  split at h
  ·rename_i b hb
   simp only[Option.map_eq_some_iff]at h
   obtain⟨r',hr,rfl⟩:=h
   obtain⟨h1,h2⟩:=we hr
   refine⟨by simp[h1],fun j c hj=>?_⟩
   cases j with
   |zero=>simp at hj;subst hj;exact⟨a,rfl,hb⟩
   |succ j=>simp at hj ⊢;exact h2 j c hj
  ·simp at h
theorem rY (hD:∀b,D b->D2 b) (yD:∀id row,g id=some row->row.w=true->∃B,ι id=some B/\iR P w D ι B row/\D2 B.b):∀(n:Nat) (a:AV) (u:Value) (r:AV),cN P w D ι a u->fz g n a=some r->cN P w D2 ι2 r u/\(a.cell=true->ja P w D2 r u/\r.cell=true):=by
 intro n
 induction n with
 |zero=>intro a u r _ h;rw[fz]at h;simp at h
 |succ n ih=>
  intro a u r hr h
  have both:∀{r:AV},ja P w D2 r u->r.cell=true->cN P w D2 ι2 r u/\(a.cell=true->ja P w D2 r u/\r.cell=true):=fun h1 h2=>⟨.eO _ _ h1,fun _=>⟨h1,h2⟩⟩
  cases a with
  |map id m=>rw[fz]at h;cases h
  |s8 id=>rw[fz]at h;cases h
  |own id off len=>
   rw[fz]at h
   split at h
   ·rename_i row hg
    split at h
    ·rename_i hw
     split at h
     ·rename_i hle
      simp only[Option.map_eq_some_iff]at h
      obtain⟨rows,sb,rfl⟩:=h
      obtain⟨B,hB,R,Lk⟩:=yD id row hg hw
      obtain⟨o,cap,B',rfl,dG,h1,h2,h3,h4,hk⟩:=jx hr
      rw[hB]at dG;injection dG with dG;subst dG
      replace R:=R.row hk
      obtain⟨l1,l2⟩:=we sb
      have hlen:rows.length=len:=by rw[l1];simp;omega
      by_cases h0:rows=[]
      ·subst h0
       simp at hlen;subst hlen
       exact both (.Dw _ _ h4) rfl
      ·have hlp:0<len:=by rw[<-hlen];exact List.length_pos_iff.2 h0
       have ho:o=off*B.sz:=by rcases h2 with h2|h2<;>omega
       have src:∀i cs,rows[i]? =some cs->∃c0,row.rows[off+i]? =some c0/\cQ g n c0=some cs:=fun i cs hi=>by
        obtain⟨c0,jN,hf⟩:=l2 i cs hi
        rw[List.getElem?_take]at jN
        split at jN
        ·rw[List.getElem?_drop]at jN;exact⟨c0,jN,hf⟩
        ·simp at jN
       have cell:∀i j,i<len->j<row.sz->∃c0 a0 v,row.rows[off+i]? =some c0/\c0[j]? =some a0/\w.cell? ⟨B.b,o+(i*row.sz+j),none⟩=some v/\cN P w D ι a0 v:=fun i j hi hj=>by
        have qD:off+i<row.rows.length:=ae
        have e1:=List.getElem?_eq_getElem qD
        have Oa:j<row.rows[off+i].length:=by rw[R.len _ (List.getElem_mem qD)];exact hj
        obtain⟨v,hv,me⟩:=R.at_ _ _ _ _ e1 (List.getElem?_eq_getElem Oa)
        refine⟨_,_,v,e1,List.getElem?_eq_getElem Oa,?_,me⟩
        rw[ho,R.sz,<-hv]
        congr 2
        rw[Nat.add_mul];omega
       refine both (.sl rows B.b o len cap row.sz (fun i j=>(w.cell? ⟨B.b,o+(i*row.sz+j),none⟩).getD undef) hlen h1 h4 Lk (fun cs dy=>?_) (fun cs dy b hb=>?_) (fun i j hi hj=>?_) (fun i j cs b hi hj=>?_)) rfl
       ·obtain⟨i,hi,rfl⟩:=List.getElem_of_mem dy
        obtain⟨c0,jN,hf⟩:=src i _ (List.getElem?_eq_getElem hi)
        rw[(gO hf).1];exact R.len c0 (List.mem_of_getElem? jN)
       ·obtain⟨i,hi,rfl⟩:=List.getElem_of_mem dy
        obtain⟨c0,jN,hf⟩:=src i _ (List.getElem?_eq_getElem hi)
        obtain⟨j,hj,rfl⟩:=List.getElem_of_mem hb
        obtain⟨a0,lT,Jv⟩:=(gO hf).2 j _ (List.getElem?_eq_getElem hj)
        obtain⟨v,_,me⟩:=R.at_ _ _ _ _ jN lT
        exact((ih _ _ _ me Jv).2 (R.flat c0 (List.mem_of_getElem? jN) a0 (List.mem_of_getElem? lT))).2
       ·obtain⟨c0,a0,v,_,_,hv,_⟩:=cell i j hi hj
        simp only[hv,Option.getD_some]
       ·obtain⟨c0,jN,hf⟩:=src i cs hi
        obtain⟨a0,lT,Jv⟩:=(gO hf).2 j b hj
        have nj:i<len:=by rw[<-hlen];exact(List.getElem?_eq_some_iff.1 hi).1
        have gW:j<row.sz:=by rw[<-R.len c0 (List.mem_of_getElem? jN)];exact(List.getElem?_eq_some_iff.1 lT).1
        obtain⟨c1,a1,v,e1,e2,hv,me⟩:=cell i j nj gW
        rw[jN]at e1;injection e1 with e1;subst e1
        rw[lT]at e2;injection e2 with e2;subst e2
        simp only[hv,Option.getD_some]
        exact((ih _ _ _ me Jv).2 (R.flat c0 (List.mem_of_getElem? jN) a0 (List.mem_of_getElem? lT))).1
     ·simp at h
    ·simp at h
   ·simp at h
  |ptr id i off=>
   rw[fz]at h
   split at h
   ·rename_i row hg
    split at h
    ·rename_i hw
     split at h
     ·rename_i c0 jN
      simp only[Option.map_eq_some_iff]at h
      obtain⟨cs,dy,rfl⟩:=h
      obtain⟨B,hB,R,Lk⟩:=yD id row hg hw
      obtain⟨B',rfl,dG,hk⟩:=ji hr
      rw[hB]at dG;injection dG with dG;subst dG
      replace R:=R.row hk
      obtain⟨l1,l2⟩:=gO dy
      have at_:∀j b,cs[j]? =some b->∃a0 v,w.cell? ⟨B.b,i*B.sz+off+j,none⟩=some v/\cN P w D ι a0 v/\a0.cell=true/\fz g n a0=some b:=fun j b hj=>by
       obtain⟨a0,lT,hf⟩:=l2 j b hj
       rw[List.getElem?_drop]at lT
       obtain⟨v,hv,me⟩:=R.at_ _ _ _ _ jN lT
       refine⟨a0,v,?_,me,R.flat c0 (List.mem_of_getElem? jN) a0 (List.mem_of_getElem? lT),hf⟩
       rw[R.sz,Nat.add_assoc];exact hv
      refine both (.dq cs B.b _ (fun j=>(w.cell? ⟨B.b,i*B.sz+off+j,none⟩).getD undef) Lk (fun b hb=>?_) (fun j hj=>?_) (fun j b hj=>?_)) rfl
      ·obtain⟨j,hj,rfl⟩:=List.getElem_of_mem hb
       obtain⟨a0,v,_,me,hc,hf⟩:=at_ j _ (List.getElem?_eq_getElem hj)
       exact((ih _ _ _ me hf).2 hc).2
      ·obtain⟨a0,v,hv,_⟩:=at_ j _ (List.getElem?_eq_getElem hj)
       simp only[hv,Option.getD_some]
      ·obtain⟨a0,v,hv,me,hc,hf⟩:=at_ j b hj
       simp only[hv,Option.getD_some]
       exact((ih _ _ _ me hf).2 hc).1
     ·simp at h
    ·simp at h
   ·simp at h
  |agg cs=>
   rw[fz]at h
   simp only[Option.map_eq_some_iff]at h
   obtain⟨r',oz,rfl⟩:=h
   obtain⟨vs,f,rfl,h1,h2,h3,h4⟩:=gM hr
   obtain⟨l1,l2⟩:=gO oz
   have hI:ja P w D2 (.agg r') (.agg vs):=.agg r' vs f (by rw[h1,l1]) (fun b hb=>by
    obtain⟨j,hj,rfl⟩:=List.getElem_of_mem hb
    obtain⟨a0,lT,hf⟩:=l2 j _ (List.getElem?_eq_getElem hj)
    exact((ih _ _ _ (h4 j a0 lT) hf).2 (h2 a0 (List.mem_of_getElem? lT))).2) (fun j hj=>h3 j (by rw[<-l1];exact hj)) (fun j b hj=>by
    obtain⟨a0,lT,hf⟩:=l2 j b hj
    exact((ih _ _ _ (h4 j a0 lT) hf).2 (h2 a0 (List.mem_of_getElem? lT))).1)
   exact⟨.eO _ _ hI,fun hc=>by simp[AV.cell]at hc⟩
  |iJ cs=>
   rw[fz]at h
   simp only[Option.map_eq_some_iff]at h
   obtain⟨r',oz,rfl⟩:=h
   obtain⟨vs,f,rfl,h1,h3,h4⟩:=vn hr
   obtain⟨l1,l2⟩:=gO oz
   exact⟨.iJ r' vs f (by rw[h1,l1]) (fun j hj=>h3 j (by rw[<-l1];exact hj)) (fun j b hj=>by
    obtain⟨a0,lT,hf⟩:=l2 j b hj
    exact(ih _ _ _ (h4 j a0 lT) hf).1),fun hc=>by simp[AV.cell]at hc⟩
  |fn f dp=>
   rw[fz]at h
   split at h
   ·rename_i dz
    simp only[Option.map_eq_some_iff]at h
    obtain⟨r',oz,rfl⟩:=h
    obtain⟨vs,q,rfl,h0,h1,h3,h4⟩:=w7 hr
    obtain⟨l1,l2⟩:=gO oz
    exact both (.fn f r' vs q h0 (by rw[h1,l1]) (fun j hj=>h3 j (by rw[<-l1];exact hj)) (fun j b hj=>by
     obtain⟨a0,lT,hf⟩:=l2 j b hj
     exact((ih _ _ _ (h4 j a0 lT) hf).2 (List.all_eq_true.1 dz a0 (List.mem_of_getElem? lT))).1)) rfl
   ·simp at h
  |int k m=>rw[fz]at h<;>(try simp at h)<;>(try subst h)<;>(try(rw[dn hr];exact⟨.eO _ _ (.int _ _),fun _=>⟨.int _ _,rfl⟩⟩))<;>(try(intros;simp_all))
  |bool b=>rw[fz]at h<;>(try simp at h)<;>(try subst h)<;>(try(rw[fa hr];exact⟨.eO _ _ (.bool _),fun _=>⟨.bool _,rfl⟩⟩))<;>(try(intros;simp_all))
  |str b=>rw[fz]at h<;>(try simp at h)<;>(try subst h)<;>(try(rw[fQ hr];exact⟨.eO _ _ (.str _),fun _=>⟨.str _,rfl⟩⟩))<;>(try(intros;simp_all))
  |ck=>rw[fz]at h<;>(try simp at h)<;>(try subst h)<;>(try(rw[jZ hr];exact⟨.eO _ _ .ck,fun _=>⟨.ck,rfl⟩⟩))<;>(try(intros;simp_all))
  |jX=>rw[fz]at h<;>(try simp at h)<;>(try subst h)<;>(try(rw[w9 hr];exact⟨.eO _ _ .jX,fun _=>⟨.jX,rfl⟩⟩))<;>(try(intros;simp_all))
  |j9=>rw[fz]at h<;>(try simp at h)<;>(try subst h)<;>(try(rw[C0 hr];exact⟨.eO _ _ .j9,fun _=>⟨.j9,rfl⟩⟩))<;>(try(intros;simp_all))
  |xJ f dp=>rw[fz]at h<;>(try simp at h)<;>(try(intros;simp_all))
  |iI=>rw[fz]at h<;>(try simp at h)<;>(try subst h)<;>(try(cases hr with|eO _ _ hr=>exact both (hr.frame (fun _ _=>rfl) hD) rfl))<;>(try(intros;simp_all))
  |sl rows=>rw[fz]at h<;>(try simp at h)<;>(try subst h)<;>(try(cases hr with|eO _ _ hr=>exact both (hr.frame (fun _ _=>rfl) hD) rfl))<;>(try(intros;simp_all))
  |dq cs=>rw[fz]at h<;>(try simp at h)<;>(try subst h)<;>(try(cases hr with|eO _ _ hr=>exact both (hr.frame (fun _ _=>rfl) hD) rfl))<;>(try(intros;simp_all))
theorem jz:∀{n:Nat} {l r:List AV},eh g n l=some r->r.length=l.length/\∀(j:Nat) (b:AV),r[j]? =some b->∃a,l[j]? =some a/\gw g n a=some b
 |n,[],r,h=>by
  rw[eh]at h;simp at h;subst h;simp
 |n,a::l,r,h=>by
  rw[eh]at h
  split at h
  ·rename_i b hb
   simp only[Option.map_eq_some_iff]at h
   obtain⟨r',hr,rfl⟩:=h
   obtain⟨h1,h2⟩:=jz hr
   refine⟨by simp[h1],fun j c hj=>?_⟩
   cases j with
   |zero=>simp at hj;subst hj;exact⟨a,rfl,hb⟩
   |succ j=>simp at hj ⊢;exact h2 j c hj
  ·simp at h
theorem ua:∀{n:Nat} {l r:List (List AV)},iK g n l=some r->r.length=l.length/\∀(j:Nat) (b:List AV),r[j]? =some b->∃a,l[j]? =some a/\eh g n a=some b
 |n,[],r,h=>by
  rw[iK]at h;simp at h;subst h;simp
 |n,a::l,r,h=>by
  rw[iK]at h
  split at h
  ·rename_i b hb
   simp only[Option.map_eq_some_iff]at h
   obtain⟨r',hr,rfl⟩:=h
   obtain⟨h1,h2⟩:=ua hr
   refine⟨by simp[h1],fun j c hj=>?_⟩
   cases j with
   |zero=>simp at hj;subst hj;exact⟨a,rfl,hb⟩
   |succ j=>simp at hj ⊢;exact h2 j c hj
  ·simp at h
theorem yV (yD:∀id row,g id=some row->row.w=true->∃B,ι id=some B/\iR P w D ι B row/\D2 B.b):∀(n:Nat) (a:AV) (u:Value) (r:AV),cN P w D ι a u->gw g n a=some r->cN P w D2 ι2 r u/\(a.cell=true->ja P w D2 r u/\r.cell=true):=by
 intro n
 induction n with
 |zero=>intro a u r _ h;rw[gw]at h;simp at h
 |succ n ih=>
  intro a u r hr h
  have both:∀{r:AV},ja P w D2 r u->r.cell=true->cN P w D2 ι2 r u/\(a.cell=true->ja P w D2 r u/\r.cell=true):=fun h1 h2=>⟨.eO _ _ h1,fun _=>⟨h1,h2⟩⟩
  cases a with
  |map id m=>rw[gw]at h<;>simp_all
  |s8 id=>rw[gw]at h<;>simp_all
  |own id off len=>
   rw[gw]at h
   split at h
   ·rename_i row hg
    split at h
    ·rename_i hw
     split at h
     ·rename_i hle
      simp only[Option.map_eq_some_iff]at h
      obtain⟨rows,sb,rfl⟩:=h
      obtain⟨B,hB,R,Lk⟩:=yD id row hg hw
      obtain⟨o,cap,B',rfl,dG,h1,h2,h3,h4,hk⟩:=jx hr
      rw[hB]at dG;injection dG with dG;subst dG
      replace R:=R.row hk
      obtain⟨l1,l2⟩:=ua sb
      have hlen:rows.length=len:=by rw[l1];simp;omega
      by_cases h0:rows=[]
      ·subst h0
       simp at hlen;subst hlen
       exact both (.Dw _ _ h4) rfl
      ·have hlp:0<len:=by rw[<-hlen];exact List.length_pos_iff.2 h0
       have ho:o=off*B.sz:=by rcases h2 with h2|h2<;>omega
       have src:∀i cs,rows[i]? =some cs->∃c0,row.rows[off+i]? =some c0/\eh g n c0=some cs:=fun i cs hi=>by
        obtain⟨c0,jN,hf⟩:=l2 i cs hi
        rw[List.getElem?_take]at jN
        split at jN
        ·rw[List.getElem?_drop]at jN;exact⟨c0,jN,hf⟩
        ·simp at jN
       have cell:∀i j,i<len->j<row.sz->∃c0 a0 v,row.rows[off+i]? =some c0/\c0[j]? =some a0/\w.cell? ⟨B.b,o+(i*row.sz+j),none⟩=some v/\cN P w D ι a0 v:=fun i j hi hj=>by
        have qD:off+i<row.rows.length:=ae
        have e1:=List.getElem?_eq_getElem qD
        have Oa:j<row.rows[off+i].length:=by rw[R.len _ (List.getElem_mem qD)];exact hj
        obtain⟨v,hv,me⟩:=R.at_ _ _ _ _ e1 (List.getElem?_eq_getElem Oa)
        refine⟨_,_,v,e1,List.getElem?_eq_getElem Oa,?_,me⟩
        rw[ho,R.sz,<-hv]
        congr 2
        rw[Nat.add_mul];omega
       refine both (.sl rows B.b o len cap row.sz (fun i j=>(w.cell? ⟨B.b,o+(i*row.sz+j),none⟩).getD undef) hlen h1 h4 Lk (fun cs dy=>?_) (fun cs dy b hb=>?_) (fun i j hi hj=>?_) (fun i j cs b hi hj=>?_)) rfl
       ·obtain⟨i,hi,rfl⟩:=List.getElem_of_mem dy
        obtain⟨c0,jN,hf⟩:=src i _ (List.getElem?_eq_getElem hi)
        rw[(jz hf).1];exact R.len c0 (List.mem_of_getElem? jN)
       ·obtain⟨i,hi,rfl⟩:=List.getElem_of_mem dy
        obtain⟨c0,jN,hf⟩:=src i _ (List.getElem?_eq_getElem hi)
        obtain⟨j,hj,rfl⟩:=List.getElem_of_mem hb
        obtain⟨a0,lT,Jv⟩:=(jz hf).2 j _ (List.getElem?_eq_getElem hj)
        obtain⟨v,_,me⟩:=R.at_ _ _ _ _ jN lT
        exact((ih _ _ _ me Jv).2 (R.flat c0 (List.mem_of_getElem? jN) a0 (List.mem_of_getElem? lT))).2
       ·obtain⟨c0,a0,v,_,_,hv,_⟩:=cell i j hi hj
        simp only[hv,Option.getD_some]
       ·obtain⟨c0,jN,hf⟩:=src i cs hi
        obtain⟨a0,lT,Jv⟩:=(jz hf).2 j b hj
        have nj:i<len:=by rw[<-hlen];exact(List.getElem?_eq_some_iff.1 hi).1
        have gW:j<row.sz:=by rw[<-R.len c0 (List.mem_of_getElem? jN)];exact(List.getElem?_eq_some_iff.1 lT).1
        obtain⟨c1,a1,v,e1,e2,hv,me⟩:=cell i j nj gW
        rw[jN]at e1;injection e1 with e1;subst e1
        rw[lT]at e2;injection e2 with e2;subst e2
        simp only[hv,Option.getD_some]
        exact((ih _ _ _ me Jv).2 (R.flat c0 (List.mem_of_getElem? jN) a0 (List.mem_of_getElem? lT))).1
     ·simp at h
    ·simp at h
   ·simp at h
  |ptr id i off=>
   rw[gw]at h
   split at h
   ·rename_i row hg
    split at h
    ·rename_i hw
     split at h
     ·rename_i c0 jN
      simp only[Option.map_eq_some_iff]at h
      obtain⟨cs,dy,rfl⟩:=h
      obtain⟨B,hB,R,Lk⟩:=yD id row hg hw
      obtain⟨B',rfl,dG,hk⟩:=ji hr
      rw[hB]at dG;injection dG with dG;subst dG
      replace R:=R.row hk
      obtain⟨l1,l2⟩:=jz dy
      have at_:∀j b,cs[j]? =some b->∃a0 v,w.cell? ⟨B.b,i*B.sz+off+j,none⟩=some v/\cN P w D ι a0 v/\a0.cell=true/\gw g n a0=some b:=fun j b hj=>by
       obtain⟨a0,lT,hf⟩:=l2 j b hj
       rw[List.getElem?_drop]at lT
       obtain⟨v,hv,me⟩:=R.at_ _ _ _ _ jN lT
       refine⟨a0,v,?_,me,R.flat c0 (List.mem_of_getElem? jN) a0 (List.mem_of_getElem? lT),hf⟩
       rw[R.sz,Nat.add_assoc];exact hv
      refine both (.dq cs B.b _ (fun j=>(w.cell? ⟨B.b,i*B.sz+off+j,none⟩).getD undef) Lk (fun b hb=>?_) (fun j hj=>?_) (fun j b hj=>?_)) rfl
      ·obtain⟨j,hj,rfl⟩:=List.getElem_of_mem hb
       obtain⟨a0,v,_,me,hc,hf⟩:=at_ j _ (List.getElem?_eq_getElem hj)
       exact((ih _ _ _ me hf).2 hc).2
      ·obtain⟨a0,v,hv,_⟩:=at_ j _ (List.getElem?_eq_getElem hj)
       simp only[hv,Option.getD_some]
      ·obtain⟨a0,v,hv,me,hc,hf⟩:=at_ j b hj
       simp only[hv,Option.getD_some]
       exact((ih _ _ _ me hf).2 hc).1
     ·simp at h
    ·simp at h
   ·simp at h
  |agg cs=>
   rw[gw]at h
   simp only[Option.map_eq_some_iff]at h
   obtain⟨r',oz,rfl⟩:=h
   obtain⟨vs,f,rfl,h1,h2,h3,h4⟩:=gM hr
   obtain⟨l1,l2⟩:=jz oz
   have hI:ja P w D2 (.agg r') (.agg vs):=.agg r' vs f (by rw[h1,l1]) (fun b hb=>by
    obtain⟨j,hj,rfl⟩:=List.getElem_of_mem hb
    obtain⟨a0,lT,hf⟩:=l2 j _ (List.getElem?_eq_getElem hj)
    exact((ih _ _ _ (h4 j a0 lT) hf).2 (h2 a0 (List.mem_of_getElem? lT))).2) (fun j hj=>h3 j (by rw[<-l1];exact hj)) (fun j b hj=>by
    obtain⟨a0,lT,hf⟩:=l2 j b hj
    exact((ih _ _ _ (h4 j a0 lT) hf).2 (h2 a0 (List.mem_of_getElem? lT))).1)
   exact⟨.eO _ _ hI,fun hc=>by simp[AV.cell]at hc⟩
  |iJ cs=>
   rw[gw]at h
   simp only[Option.map_eq_some_iff]at h
   obtain⟨r',oz,rfl⟩:=h
   obtain⟨vs,f,rfl,h1,h3,h4⟩:=vn hr
   obtain⟨l1,l2⟩:=jz oz
   exact⟨.iJ r' vs f (by rw[h1,l1]) (fun j hj=>h3 j (by rw[<-l1];exact hj)) (fun j b hj=>by
    obtain⟨a0,lT,hf⟩:=l2 j b hj
    exact(ih _ _ _ (h4 j a0 lT) hf).1),fun hc=>by simp[AV.cell]at hc⟩
  |fn f dp=>rw[gw]at h<;>(try simp at h)<;>(try(intros;simp_all))
  |int k m=>rw[gw]at h<;>(try simp at h)<;>(try subst h)<;>(try(rw[dn hr];exact⟨.eO _ _ (.int _ _),fun _=>⟨.int _ _,rfl⟩⟩))<;>(try(intros;simp_all))
  |bool b=>rw[gw]at h<;>(try simp at h)<;>(try subst h)<;>(try(rw[fa hr];exact⟨.eO _ _ (.bool _),fun _=>⟨.bool _,rfl⟩⟩))<;>(try(intros;simp_all))
  |str b=>rw[gw]at h<;>(try simp at h)<;>(try subst h)<;>(try(rw[fQ hr];exact⟨.eO _ _ (.str _),fun _=>⟨.str _,rfl⟩⟩))<;>(try(intros;simp_all))
  |ck=>rw[gw]at h<;>(try simp at h)<;>(try subst h)<;>(try(rw[jZ hr];exact⟨.eO _ _ .ck,fun _=>⟨.ck,rfl⟩⟩))<;>(try(intros;simp_all))
  |jX=>rw[gw]at h<;>(try simp at h)<;>(try subst h)<;>(try(rw[w9 hr];exact⟨.eO _ _ .jX,fun _=>⟨.jX,rfl⟩⟩))<;>(try(intros;simp_all))
  |j9=>rw[gw]at h<;>(try simp at h)<;>(try subst h)<;>(try(rw[C0 hr];exact⟨.eO _ _ .j9,fun _=>⟨.j9,rfl⟩⟩))<;>(try(intros;simp_all))
  |xJ f dp=>rw[gw]at h<;>(try simp at h)<;>(try(intros;simp_all))
  |iI=>rw[gw]at h<;>(try simp at h)<;>(try subst h)<;>(try(cases hr with|eO _ _ hr=>cases hr;exact both .iI rfl))<;>(try(intros;simp_all))
  |sl rows=>rw[gw]at h<;>(try simp at h)<;>(try(intros;simp_all))
  |dq cs=>rw[gw]at h<;>(try simp at h)<;>(try(intros;simp_all))
end
end Go.Proofs.YtkbipfflibjfbaaGreat.V

namespace Go.Proofs.YtkbipfflibjfbaaGreat.V
open Go.RowKit
variable {P:Program} {w w':World} {D D':Nat->Prop} {ι ι':Names}
section
variable {g:Rows} {hs:Nat} {env:Env} {a:Act} {o:Oper} {id:Id} {v:AV}
theorem gK.H6 (S:gK P hs D ι g w) {i:Id} {r r':Row} {B:sU} {ob:Obj} (hid:g i=some r) (hw:r.w=true) (hB:ι i=some B)
  (hR:(∀a v,cN P w D ι a v->cN P {w with heap:=w.heap.setIfInBounds B.b ob} D ι a v)->(w.heap.setIfInBounds B.b ob)[B.b]? =some ob->iR P {w with heap:=w.heap.setIfInBounds B.b ob} D ι B r'):
  gK P hs D ι (bU g i r') {w with heap:=w.heap.setIfInBounds B.b ob}/\Step hs D ι w D ι {w with heap:=w.heap.setIfInBounds B.b ob}:=by
 obtain⟨B0,oK,R,kJ,kZ⟩:=S.row i r hid
 rw[hB]at oK;injection oK with oK;subst oK
 have other:∀b,b≠B.b->(w.heap.setIfInBounds B.b ob)[b]? =w.heap[b]? :=fun b hb=>by simp[Ne.symm hb]
 have hd:∀b,D b->(w.heap.setIfInBounds B.b ob)[b]? =w.heap[b]? :=fun b hb=>other b (by rintro rfl;exact kZ hw hb)
 have hr:∀a v,cN P w D ι a v->cN P {w with heap:=w.heap.setIfInBounds B.b ob} D ι a v:=fun a v h=>h.frame hd (fun _ h=>h) (fun _ _ h=>h)
 refine⟨⟨by simpa using S.lo,fun b hb=>by simpa using S.dead b hb,fun j q h=>?_,fun j j' q q' C C' h h' S4 hC Eh he=>?_⟩,⟨⟨rfl,rfl,rfl,by simp,fun k hk=>other k (by have:=kJ hw;omega)⟩,hd,fun _ h=>h,fun _ _ h=>h,fun _ h=>.inl h⟩⟩
 ·unfold bU at h
  split at h
  ·rename_i e
   subst e
   injection h with h;subst h
   exact⟨B,hB,hR hr (by simp[R.lt]),fun _=>kJ hw,fun _=>kZ hw⟩
  ·rename_i e
   obtain⟨C,hC,RC,k1,k2⟩:=S.row j q h
   refine⟨C,hC,RC.frame (other C.b (fun Lo=>e ?_)) hr,k1,k2⟩
   exact(S.inj i j r q B C hid h hw hB hC Lo.symm).symm
 ·unfold bU at h h'
  have get:∀j p,(if j=i then some r' else g j)=some p->∃p0,g j=some p0/\(p.w=true->p0.w=true):=fun j p hp=>by
   split at hp
   ·rename_i e;subst e;injection hp with hp;subst hp;exact⟨r,hid,fun _=>hw⟩
   ·exact⟨p,hp,fun h=>h⟩
  obtain⟨p,hp,Ro⟩:=get _ _ h
  obtain⟨p',MB,_⟩:=get _ _ h'
  exact S.inj j j' p p' C C' hp MB (Ro S4) hC Eh he
theorem FL {s:TS} {x y:AV} {u v:Value} (he:gj s x y=some true) (hx:cN P w D ι x u) (hy:cN P w D ι y v):u=v/\∀n,Instr.sameBits n u v=true:=by
 unfold gj at he
 split at he
 ·split at he
  ·rename_i hk
   subst hk
   simp at he;subst he
   rw[dn hx,dn hy]
   exact⟨rfl,fun n=>by cases n<;>simp[Instr.sameBits]⟩
  ·cases he
 ·simp at he;subst he
  rw[fa hx,fa hy]
  exact⟨rfl,fun n=>by cases n<;>simp[Instr.sameBits]⟩
 ·simp at he;subst he
  rw[fQ hx,fQ hy]
  exact⟨rfl,fun n=>by cases n<;>simp[Instr.sameBits,IK]⟩
 ·cases he
theorem BV {n:Nat}:∀{ts:List TS} {xs ys:List AV} {vs us:List Value},fq ts xs ys=some true->vs.length=xs.length->us.length=ys.length->(∀(j:Nat) (a:AV),xs[j]? =some a->∃u,vs[j]? =some u/\cN P w D ι a u)->(∀(j:Nat) (a:AV),ys[j]? =some a->∃u,us[j]? =some u/\cN P w D ι a u)->
  us.length=vs.length/\(us.zip vs).all (fun p=>Instr.sameBits n p.1 p.2)=true
 |[],[],[],vs,us,_,h1,h2,_,_=>by
  cases vs<;>cases us<;>simp_all
 |[],x::xs,ys,vs,us,h,_,_,_,_=>by simp[fq]at h
 |[],[],y::ys,vs,us,h,_,_,_,_=>by simp[fq]at h
 |t::ts,[],ys,vs,us,h,_,_,_,_=>by simp[fq]at h
 |t::ts,x::xs,[],vs,us,h,_,_,_,_=>by simp[fq]at h
 |t::ts,x::xs,y::ys,[],us,h,h1,_,_,_=>by simp at h1
 |t::ts,x::xs,y::ys,v::vs,[],h,_,h2,_,_=>by simp at h2
 |t::ts,x::xs,y::ys,v::vs,u::us,h,h1,h2,hx,hy=>by
  unfold fq at h
  split at h
  ·rename_i a b ha hb
   simp only[Option.some.injEq,Bool.and_eq_true]at h
   obtain⟨rfl,rfl⟩:=h
   obtain⟨v',oI,rv⟩:=hx 0 x rfl
   obtain⟨u',Dt,ru⟩:=hy 0 y rfl
   simp at oI Dt;subst oI;subst Dt
   obtain⟨e1,e2⟩:=FL ha rv ru
   obtain⟨q1,q2⟩:=BV (n:=n) hb (by simpa using h1) (by simpa using h2) (fun j a hj=>by simpa using hx (j+1) a (by simpa using hj)) (fun j a hj=>by simpa using hy (j+1) a (by simpa using hj))
   refine⟨by simp[q1],?_⟩
   simp only[List.zip_cons_cons,List.all_cons,q2,Bool.and_true]
   rw[<-e1]
   have:=e2 n
   rw[<-e1]at this
   exact this
  ·cases h
theorem CL {m:MK} {key:List AV}:∀{rows:List (List AV)} {i j:Nat},jk m key rows i=some (some j)->∃cs,i<=j/\rows[j-i]? =some cs/\fq m.ts key (cs.take m.ks)=some true
 |[],i,j,h=>by simp[jk]at h
 |cs::rows,i,j,h=>by
  unfold jk at h
  split at h
  ·rename_i hq
   simp at h;subst h
   exact⟨cs,Nat.le_refl _,by simp,hq⟩
  ·obtain⟨c,h1,h2,h3⟩:=CL h
   exact⟨c,ae,by rw[show j-i=(j-(i+1))+1 by omega];simpa using h2,h3⟩
  ·cases h
theorem wQ {m:MK} {k:AV} {rows:List (List AV)} {fi:Option Nat} (h:iV m k rows=some fi):k.isAgg=m.ka/\k.cells.length=m.ks/\(k.cells.all AV.cell=true)/\jk m k.cells rows 0=some fi:=by
 unfold iV at h
 split at h
 ·rename_i hc;exact⟨hc.1,hc.2.1,hc.2.2,h⟩
 ·cases h
theorem Kn {m:MK} {k y:AV} (h1:k.isAgg=m.ka) (h2:k.cells.length=m.ks):part m.ka m.ks (k.cells++[y])=some k/\(k.cells++[y])[m.ks]? =some y:=by
 refine⟨?_,by rw[List.getElem?_append_right ae,h2,Nat.sub_self];rfl⟩
 cases hk:m.ka with
 |false=>
  rw[hk]at h1
  rw[vT h1];rfl
 |true=>
  rw[hk]at h1
  cases k<;>simp[AV.isAgg]at h1
  rename_i cs
  simp only[AV.cells]at h2 ⊢
  simp only[part,if_true]
  rw[if_pos (by simp;omega),<-h2,List.take_left']
  rfl
theorem stays {k:TypeId} {m:MK} (hK:FA P k m) {key kv:AV} {u CU:Value} {cs:List AV} (h1:key.isAgg=m.ka) (hr:cN P w D ι key u) (hp:part m.ka m.ks cs=some kv) (ho:cN P w D ι kv CU) (he:fq m.ts key.cells (cs.take m.ks)=some true):(Instr.keyThatStays CU u).run P w=.ok u w:=by
 have hs:Instr.sameBits 10000 CU u=true:=by
  rcases hK with⟨s,rfl,hs⟩|⟨fs,ts,rfl,r5,xZ,dR,dz⟩
  ·rw[vT h1]at he
   cases cs with
   |nil=>simp[part]at hp
   |cons c l=>
    simp[part]at hp;subst hp
    simp only[MK.ks,List.length_cons,List.length_nil,Nat.zero_add,List.take_succ_cons,List.take_zero,fq]at he
    cases hq:gj s key c with
    |none=>rw[hq]at he;simp at he
    |some b=>
     rw[hq]at he;simp at he;subst he
     obtain⟨e1,e2⟩:=FL hq hr ho
     rw[<-e1]
     have:=e2 10000
     rwa [<-e1]at this
  ·cases key<;>simp[AV.isAgg]at h1
   rename_i ks
   simp only[part,if_true]at hp
   split at hp
   ·simp only[Option.some.injEq]at hp;subst hp
    obtain⟨vs,rfl,n1,r1⟩:=sr hr
    obtain⟨us,rfl,n2,r2⟩:=sr ho
    obtain⟨q1,q2⟩:=BV (n:=9999) (vs:=vs.toList) (us:=us.toList) he (by simpa[AV.cells]using n1) (by simpa using n2) (fun j a hj=>by simpa using r1 j a hj) (fun j a hj=>by simpa using r2 j a hj)
    simp only[Instr.sameBits,Bool.and_eq_true,beq_iff_eq]
    exact⟨by simpa using q1,q2⟩
   ·cases hp
 simp[Instr.keyThatStays,hs]
theorem KH {es:Array MapEntry} {clock:Nat} (h:OH es clock) (k v:Value):OH (es.push ⟨k,v,clock⟩) (clock+1):=by
 refine⟨fun x hx=>?_,?_⟩
 ·simp only[Array.toList_push,List.mem_append,List.mem_singleton]at hx
  rcases hx with hx|rfl
  ·have:=h.1 x hx;omega
  ·exact Nat.lt_succ_self _
 ·simp only[Array.toList_push,List.map_append,List.map_cons,List.map_nil]
  refine List.nodup_append.2 ⟨h.2,by simp,fun a ha b hb=>?_⟩
  obtain⟨x,hx,rfl⟩:=List.mem_map.1 ha
  simp at hb;subst hb
  have:=h.1 x hx;omega
theorem Fh {es:Array MapEntry} {clock:Nat} (h:OH es clock) (j:Nat) (k v:Value):OH (es.modify j fun e=>{e with key:=k,val:=v}) clock:=by
 have e:(es.modify j fun e=>{e with key:=k,val:=v}).toList.map (·.born)=es.toList.map (·.born):=by
  refine List.ext_getElem? fun i=>?_
  simp only[List.getElem?_map,Array.getElem?_toList,Array.getElem?_modify]
  split
  ·cases es[i]? <;>rfl
  ·rfl
 refine⟨fun x hx=>?_,by rw[e];exact h.2⟩
 have hb:x.born∈(es.modify j fun e=>{e with key:=k,val:=v}).toList.map (·.born):=List.mem_map_of_mem hx
 rw[e]at hb
 obtain⟨y,hy,hyb⟩:=List.mem_map.1 hb
 rw[<-hyb];exact h.1 y hy
theorem HT {es:Array MapEntry} {clock:Nat} (h:OH es clock) {j:Nat} (hj:j<es.size):OH (es.eraseIdxIfInBounds j) clock:=by
 have e:(es.eraseIdxIfInBounds j).toList=es.toList.eraseIdx j:=by
  unfold Array.eraseIdxIfInBounds
  rw[dif_pos hj,Array.toList_eraseIdx]
 refine⟨fun x hx=>h.1 x ((List.eraseIdx_sublist _ _).subset (by rwa [e]at hx)),?_⟩
 rw[e]
 exact((List.eraseIdx_sublist es.toList j).map (·.born)).nodup h.2
theorem B5 {k y:AV} (h1:k.cells.all AV.cell=true) (h2:y.cell=true):∀a∈k.cells++[y],a.cell=true:=fun a ha=>by
 rcases List.mem_append.1 ha with ha|ha
 ·exact List.all_eq_true.1 h1 a ha
 ·rw[List.mem_singleton.1 ha];exact h2
theorem O8 {t:TypeId} {x k y:Operand} {m:MK} {z:K} {x' k' y':O} {g':Rows} (S:gK P hs D ι g w) (E:cE P w D ι env a) (ho:o.op=.mapUpdate t x k y∨o.op=.insert t x k y) (hc:s4 P t=some (m,z)) (hx:cO P x=some x') (hk:cO P k=some k') (hy:cO P y=some y')
  (hv:bE (.set m) [dh env x',dh env k',dh env y'] g=some g'):Dy P hs a o w D ι id .undef g':=by
 obtain⟨kt,e,i,zv,ht,hi,wI,Um,hK⟩:=rT hc
 simp only[bE,Option.bind_eq_some_iff]at hv
 obtain⟨p,hp,fi,N4,hv⟩:=hv
 split at hv
 ·rename_i hcond
  obtain⟨hw,hyc,_⟩:=hcond
  simp only[Option.some.injEq]at hv;subst hv
  obtain⟨B,hu,hg,hB,uW,es,clock,hb,fy,hlen,hM⟩:=AD S (dv E hx) hp
  have rk:=dv E hk
  have ry:=dv E hy
  obtain⟨ql,res,hf,hF⟩:=v7 (B:=B) hK rk fy hM N4
  obtain⟨k1,k2,k3,k4⟩:=wQ N4
  obtain⟨B',dG,R,_⟩:=S.row p.1 p.2 hg
  rw[hB]at dG;injection dG with dG;subst dG
  obtain⟨pk1,pk2⟩:=Kn (y:=dh env y') k1 k2
  have eQ:(getObj B.b).run P w=.ok (.map es clock) w:=MapKept.run_getObj_map hb
  rcases hF with⟨rfl,rfl⟩|⟨j,en,rfl,he,rfl⟩
  ·have oH:=S.H6 (ob:=.map (es.push ⟨a.eval k,a.eval y,clock⟩) (clock+1)) (r':={p.2 with rows:=dV p.2.rows ((dh env k').cells++[dh env y']) none}) hg hw hB fun hr lF=>⟨R.sz,fun cs dy=>?_,fun tk=>(by rw[uW]at tk;cases tk),fun m' Ch=>?_,fun c hc=>(by rw[uW]at hc;cases hc)⟩
   ·refine⟨undef,_,ι,.inr ⟨?_,rfl⟩,oH.2,oH.1,cN.undef,fun _ _=>rfl⟩
    rcases ho with ho|ho<;>
    ·simp only[execOp,ho,Instr.mapUpdate,hu,Sem.run_bind,run_underlying ht,Result.andThen_ok,eQ,ql,hf,MapKept.run_setObj_map _ hb,Sem.run_pure]
   ·rcases List.mem_append.1 dy with h|h
    ·exact R.flat cs h
    ·rw[List.mem_singleton.1 h];exact B5 k3 hyc
   ·rw[uW]at Ch;simp only[Option.some.injEq,BK.map.injEq]at Ch;subst Ch
    refine⟨(R.map m uW).1,_,_,lF,by simp[dV,fy],⟨fun cs dy=>?_,KH hlen.2 _ _⟩,fun q cs hq=>?_⟩
    ·rcases List.mem_append.1 dy with h|h
     ·exact hlen.1 cs h
     ·rw[List.mem_singleton.1 h];simp[k2]
    ·rcases Nat.lt_or_ge q p.2.rows.length with dO|mz
     ·simp only[dV]at hq
      rw[List.getElem?_append_left dO]at hq
      obtain⟨en,kv,vv,q1,q2,q3,q4,q5⟩:=hM q cs hq
      exact⟨en,kv,vv,by rw[Array.getElem?_push_lt ae];rw[Array.getElem?_eq_getElem ae]at q1;simpa using q1,q2,q3,hr _ _ q4,hr _ _ q5⟩
     ·simp only[dV]at hq
      rw[List.getElem?_append_right mz]at hq
      have hq0:q=p.2.rows.length:=by
       have:=(List.getElem?_eq_some_iff.1 hq).1
       simp at this;omega
      subst hq0
      simp at hq;subst hq
      exact⟨⟨a.eval k,a.eval y,clock⟩,_,_,by rw[<-fy];simp,pk1,pk2,hr _ _ rk,hr _ _ ry⟩
  ·simp only[Nat.zero_add]at k4 N4 hf ⊢
   obtain⟨Q3,_,En,heq⟩:=CL k4
   simp only[Nat.sub_zero]at En
   obtain⟨UY,kv,vv,q1,q2,_,q4,_⟩:=hM j Q3 En
   have Lp:UY=en:=by
    have h1:es.toList[j]? =some UY:=by simpa using q1
    rw[he]at h1;injection h1 with h1;exact h1.symm
   subst Lp
   have dR:=stays (w:=w) hK k1 rk q2 q4 heq
   have oH:=S.H6 (ob:=.map (es.modify j fun e=>{e with key:=a.eval k,val:=a.eval y}) clock) (r':={p.2 with rows:=dV p.2.rows ((dh env k').cells++[dh env y']) (some j)}) hg hw hB fun hr lF=>⟨R.sz,fun cs dy=>?_,fun tk=>(by rw[uW]at tk;cases tk),fun m' Ch=>?_,fun c hc=>(by rw[uW]at hc;cases hc)⟩
   ·refine⟨undef,_,ι,.inr ⟨?_,rfl⟩,oH.2,oH.1,cN.undef,fun _ _=>rfl⟩
    rcases ho with ho|ho<;>
    ·simp only[execOp,ho,Instr.mapUpdate,hu,Sem.run_bind,run_underlying ht,Result.andThen_ok,eQ,ql,hf,q1,Option.map_some,Option.getD_some,dR,MapKept.run_setObj_map _ hb,Sem.run_pure]
   ·rcases List.mem_or_eq_of_mem_set dy with h|h
    ·exact R.flat cs h
    ·rw[h];exact B5 k3 hyc
   ·rw[uW]at Ch;simp only[Option.some.injEq,BK.map.injEq]at Ch;subst Ch
    have gW:=(List.getElem?_eq_some_iff.1 En).1
    refine⟨(R.map m uW).1,_,_,lF,by simp[dV,fy],⟨fun cs dy=>?_,Fh hlen.2 _ _ _⟩,fun q cs hq=>?_⟩
    ·rcases List.mem_or_eq_of_mem_set dy with h|h
     ·exact hlen.1 cs h
     ·rw[h];simp[k2]
    ·simp only[dV,List.getElem?_set]at hq
     split at hq
     ·rename_i Ri
      subst Ri
      (try rw[if_pos gW]at hq)
      injection hq with hq;subst hq
      exact⟨{UY with key:=a.eval k,val:=a.eval y},_,_,by rw[Array.getElem?_modify];simp[q1],pk1,pk2,hr _ _ rk,hr _ _ ry⟩
     ·rename_i Ri
      obtain⟨en,kv,vv,q1,q2,q3,q4,q5⟩:=hM q cs hq
      exact⟨en,kv,vv,by rw[Array.getElem?_modify];simp[Ri,q1],q2,q3,hr _ _ q4,hr _ _ q5⟩
 ·cases hv
theorem O7 {t t':TypeId} {x k:Operand} {m:MK} {z:K} {x' k':O} {g':Rows} (S:gK P hs D ι g w) (E:cE P w D ι env a) (ho:o.op=.call {callee:=.builtin .delete,args:= #[x,k],argTypes:= #[t,t']}) (hc:s4 P t=some (m,z)) (hx:cO P x=some x') (hk:cO P k=some k')
  (hv:bE (.del m) [dh env x',dh env k'] g=some g'):Dy P hs a o w D ι id .undef g':=by
 obtain⟨kt,e,i,zv,ht,hi,wI,Um,hK⟩:=rT hc
 simp only[bE,Option.bind_eq_some_iff]at hv
 obtain⟨p,hp,fi,N4,hv⟩:=hv
 split at hv
 ·rename_i hw
  simp only[Option.some.injEq]at hv;subst hv
  obtain⟨B,hu,hg,hB,uW,es,clock,hb,fy,hlen,hM⟩:=AD S (dv E hx) hp
  have rk:=dv E hk
  obtain⟨ql,res,hf,hF⟩:=v7 (B:=B) hK rk fy hM N4
  obtain⟨k1,k2,k3,k4⟩:=wQ N4
  obtain⟨B',dG,R,_⟩:=S.row p.1 p.2 hg
  rw[hB]at dG;injection dG with dG;subst dG
  have eQ:(getObj B.b).run P w=.ok (.map es clock) w:=MapKept.run_getObj_map hb
  have go:∀ob,(Builtin.delete_ #[t,t'] o.type #[a.eval x,a.eval k]).run P w=.ok (.tuple #[]) {w with heap:=w.heap.setIfInBounds B.b ob}->(execOp a.eval o).run P w=.ok (.value undef) {w with heap:=w.heap.setIfInBounds B.b ob}:=fun ob h=>by
   simp only[execOp,ho,resolve,Sem.run_bind,Sem.run_pure,Result.andThen_ok,invoke,builtin,Array.map]
   simp[h,undef]
  rcases hF with⟨rfl,rfl⟩|⟨j,en,rfl,he,rfl⟩
  ·have oH:=S.H6 (ob:=.map es clock) (r':={p.2 with rows:=ec p.2.rows none}) hg hw hB fun hr lF=>⟨R.sz,R.flat,fun tk=>(by rw[uW]at tk;cases tk),fun m' Ch=>?_,fun c hc=>(by rw[uW]at hc;cases hc)⟩
   ·refine⟨undef,_,ι,.inl (go _ ?_),oH.2,oH.1,cN.undef,fun _ _=>rfl⟩
    simp[Builtin.delete_,hu,run_underlying ht,eQ,ql,hf,MapKept.run_setObj_map _ hb]
   ·rw[uW]at Ch;simp only[Option.some.injEq,BK.map.injEq]at Ch;subst Ch
    exact⟨(R.map m uW).1,_,_,lF,fy,hlen,fun q cs hq=>by
     obtain⟨en,kv,vv,q1,q2,q3,q4,q5⟩:=hM q cs hq
     exact⟨en,kv,vv,q1,q2,q3,hr _ _ q4,hr _ _ q5⟩⟩
  ·simp only[Nat.zero_add]at hf ⊢
   have gW:j<es.size:=by have:=(List.getElem?_eq_some_iff.1 he).1;simpa using this
   have oH:=S.H6 (ob:=.map (es.eraseIdxIfInBounds j) clock) (r':={p.2 with rows:=ec p.2.rows (some j)}) hg hw hB fun hr lF=>⟨R.sz,fun cs dy=>R.flat cs (List.mem_of_mem_eraseIdx dy),fun tk=>(by rw[uW]at tk;cases tk),fun m' Ch=>?_,fun c hc=>(by rw[uW]at hc;cases hc)⟩
   ·refine⟨undef,_,ι,.inl (go _ ?_),oH.2,oH.1,cN.undef,fun _ _=>rfl⟩
    simp[Builtin.delete_,hu,run_underlying ht,eQ,ql,hf,MapKept.run_setObj_map _ hb]
   ·rw[uW]at Ch;simp only[Option.some.injEq,BK.map.injEq]at Ch;subst Ch
    have SE:∀q,(es.eraseIdxIfInBounds j)[q]? =(es.toList.eraseIdx j)[q]? :=fun q=>by
     unfold Array.eraseIdxIfInBounds
     rw[dif_pos gW,<-Array.getElem?_toList,Array.toList_eraseIdx]
    refine⟨(R.map m uW).1,_,_,lF,by simp[ec,Array.eraseIdxIfInBounds,gW,List.length_eraseIdx,<-fy],⟨fun cs dy=>hlen.1 cs (List.mem_of_mem_eraseIdx dy),HT hlen.2 gW⟩,fun q cs hq=>?_⟩
    simp only[ec,List.getElem?_eraseIdx]at hq
    split at hq
    ·rename_i dO
     obtain⟨en,kv,vv,q1,q2,q3,q4,q5⟩:=hM q cs hq
     exact⟨en,kv,vv,by rw[SE,List.getElem?_eraseIdx,if_pos dO];simpa using q1,q2,q3,hr _ _ q4,hr _ _ q5⟩
    ·rename_i dO
     obtain⟨en,kv,vv,q1,q2,q3,q4,q5⟩:=hM (q+1) cs hq
     exact⟨en,kv,vv,by rw[SE,List.getElem?_eraseIdx,if_neg dO];simpa using q1,q2,q3,hr _ _ q4,hr _ _ q5⟩
 ·cases hv
end
end Go.Proofs.YtkbipfflibjfbaaGreat.V
