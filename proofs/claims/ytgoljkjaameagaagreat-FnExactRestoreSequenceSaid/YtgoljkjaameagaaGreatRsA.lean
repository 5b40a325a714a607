/- A small language in which the program's functions are read by value: its values, its operations, its code, and how the program's code is brought into it. -/
import Derived.WalkKit
import Derived.WalkSpells
import Derived.WalkLawsBesides
import Derived.Lib.Hide
import Derived.Great.BuildSlice
import Derived.Conc.LoneCalls
import Derived.MapKept
import Derived.WideKeyRuns
set_option linter.unusedVariables false
set_option linter.unusedSimpArgs false
set_option maxRecDepth 100000
set_option maxHeartbeats 16000000
namespace Go.Proofs.YtgoljkjaameagaaGreat.V
open Go.RowKit
structure Id where
  site:Nat
  bW:Nat
  deriving DecidableEq,Repr
inductive TS where
  |tI|tB|tS
  deriving Repr,DecidableEq
structure MK where
  ka:Bool
  ts:List TS
  deriving Repr,DecidableEq
inductive AV where
  |int (k:IntKind) (n:Int)
  |bool (b:Bool)
  |str (s:ByteArray)
  |cC|gY|jh
  |sl (rows:List (List AV))
  |own (id:Id) (off len:Nat)
  |ptr (id:Id) (i off:Nat)
  |dn (cs:List AV)
  |agg (cs:List AV)
  |gO (vs:List AV)
  |fn (f:Nat) (cQ:List AV)
  |map (id:Id) (m:MK)
  |jo
  |uG (f:Nat) (first:List AV)
  |r7 (id:Id)
  deriving Inhabited
def AV.undef:AV:=.gO []
def AV.cell:AV->Bool
  | .agg _| .gO _=>false
  |_=>true
def AV.cells:AV->List AV
  | .agg cs=>cs
  |v=>[v]
inductive K where
  |int (k:IntKind) (n:Int)
  |bool (b:Bool)
  |str (l:List UInt8)
  |cC|gY|jh|jo
  deriving Repr,DecidableEq
def K.val:K->Value
  | .int k n=>.int k n
  | .bool b=>.bool b
  | .str l=>.string ⟨l.toArray⟩
  | .cC=>.slice none 0 0
  | .gY=>.pointer none
  | .jh=>.nilFunc
  | .jo=>.map none
def K.av:K->AV
  | .int k n=>.int k n
  | .bool b=>.bool b
  | .str l=>.str ⟨l.toArray⟩
  | .cC=>.cC
  | .gY=>.gY
  | .jh=>.jh
  | .jo=>.jo
def G2:Value->Option K
  | .int k n=>some (.int k n)
  | .bool b=>some (.bool b)
  | .string s=>some (.str s.data.toList)
  | .slice none 0 0=>some .cC
  | .pointer none=>some .gY
  | .nilFunc=>some .jh
  | .map none=>some .jo
  |_=>none
inductive O where
  |t (n:Nat)
  |k (c:K)
  |ka (cs:List K)
  |f (n:Nat)
  deriving Repr,DecidableEq
inductive MQ where
  |new (m:MK)
  |look (m:MK) (ok:Bool) (zero:K)
  |len (m:MK)
  deriving Repr,DecidableEq
inductive MW where
  |set (m:MK)
  |del (m:MK)
  deriving Repr,DecidableEq
inductive gG where
  |dq (x:O)
  |pick (c a b:O)
  |new (zero:List K)
  |box (x:O)
  |build (zero:List K) (parts:List (Nat×Nat×O))
  |mh (sz len:Nat) (parts:List O)
  |load (agg:Bool) (n:Nat) (a:O)
  |store (n:Nat) (a x:O)
  |Bi (x:O)
  |bin (op:BinOp) (k:IntKind) (x y:O)
  |sh (left:Bool) (x y:O)
  |Ly (op:BinOp) (x y:O)
  |Oi (neg:Bool) (t:TS) (x y:O)
  |SJ (neg:Bool) (ts:List TS) (x y:O)
  |Q0 (neg Mh:Bool) (x:O)
  |SK (neg:Bool) (x:O)
  |not (x:O)
  |neg (x:O)
  |conv (k:IntKind) (x:O)
  |Fu (x:O)
  |slice (sz:Nat) (x:O) (lo hi:Option O)
  |AS (x:O) (lo hi:Option O)
  |fW (off:Nat) (x:O)
  |field (agg:Bool) (off n:Nat) (x:O)
  |dQ (sz:Nat) (x i:O)
  |Mc (len sz:Nat) (x i:O)
  |Me (x i:O)
  |eG (agg:Bool) (len n:Nat) (x i:O)
  |extract (i:Nat) (x:O)
  |len (x:O)
  |Mm (x:O)
  |append (sz:Nat) (x y:O)
  |copy (sz:Nat) (x y:O)
  |clear (zero:List K) (x:O)
  |Mr (f:Nat) (cQ:List O)
  |Ms (f:Nat) (first:List O)
  |kc (zero:List K) (len cap:O)
  |call (f:Nat) (args:List O)
  |uo (x:O) (args:List O)
  |mq (q:MQ) (xs:List O)
  |mw (q:MW) (xs:List O)
  |JU (x:O)
  |JN (x:O)
  |snd (x y:O)
  |Px (x:O)
  |bad
  deriving Repr,DecidableEq
structure bj where
  dst:Option Nat
  op:gG
  guard:Option (Nat×Bool)
  site:Nat
  hid:List Nat
  deriving Repr,DecidableEq
def q (d:Nat) (op:gG) (s:Nat):bj:=⟨some d,op,none,s,[]⟩
inductive VC where
  |skip
  |eL (draw:Bool) (ops:List bj)
  |seq (a b:VC)
  |cond (c:O) (x y:VC)
  |block (id:Nat) (c:VC)
  |loop (c:VC)
  |exit (id:Nat)
  |ret
  |one (o:bj) (c:VC)
  |both (a b:VC)
  |loc (t s:Nat) (y:O) (c:VC)
  |Ob (ops:List bj)
  deriving Repr,DecidableEq
inductive om where
  |tmp (t:Nat)
  |cell (agg:Bool) (n:Nat) (t:Nat)
  deriving Repr,DecidableEq
structure Bh where
  ntmps:Nat
  zt:Nat
  body:VC
  res:List om
  deriving Repr,DecidableEq
def fP (P:Program) (f:Nat):Bool:=
  match P.funcs[f]? with
  |some fn=>fn.body.isSome&& !(fn.name== "runtime.NumGoroutine")
  |none=>false
def cO (P:Program):Operand->Option O
  | .tmp t=>some (.t t)
  | .const (.agg cs)=>(cs.toList.mapM G2).map O.ka
  | .const v=>(G2 v).map O.k
  | .global _=>none
  | .func f=>if fP P f then some (.f f)else none
def jO (P:Program) (t:TypeId):Option (List K):=
  match P.info? t with
  |some i=>match i.zero with
    |some v=>if v.cells.size=i.size then v.cells.toList.mapM G2 else none
    |none=>none
  |none=>none
def ec (P:Program) (t:TypeId):Option Nat:=(P.info? t).map (·.size)
def ox (P:Program) (t:TypeId):Option Bool:=
  match P.underlying t with
  |some (.struct _)|some (.array _ _)=>some true
  |some _=>some false
  |none=>none
inductive TM where
  |sc (t:TS)|ag (ts:List TS)
  deriving Repr,DecidableEq
def fx (P:Program) (t:TypeId):Option TS:=
  match P.underlying t with
  |some .bool=>some .tB
  |some (.int _)=>some .tI
  |some .string=>some .tS
  |_=>none
def DO (P:Program) (inner:List Field->Option (List TS)):Nat->List Field->Option (List TS)
  |_,[]=>some []
  |off,f::r=>
    if f.offset=off/\f.name≠ "_" then
      match fx P f.type with
      |some t=>if ox P f.type=some false then(DO P inner (off+1) r).map (t::·)else none
      |none=>match P.underlying f.type with
        |some (.struct fs)=>if !P.stoodInHeld f.type then match inner fs.toList with
          |some ts=>if ec P f.type=some ts.length/\ts≠[]then(DO P inner (off+ts.length) r).map (ts++·)else none
          |none=>none else none
        |_=>none
    else none
def eM (P:Program):Nat->Nat->List Field->Option (List TS)
  |0,_,[]=>some []
  |0,_,_::_=>none
  |d+1,off,fs=>DO P (eM P d 0) off fs
def T6 (P:Program) (t:TypeId):Option TM:=
  match fx P t with
  |some s=>some (.sc s)
  |none=>match P.underlying t with
    |some (.struct fs)=>if !P.stoodInHeld t&& !P.eqGuardType P.depth t then(eM P 4 0 fs.toList).map TM.ag else none
    |_=>none
def tj (P:Program) (fs:Array Field):List (Nat×O)->Option (List (Nat×Nat×O))
  |[]=>some []
  |(i,x)::r=>match fs[i]? with
    |some f=>match ec P f.type with
      |some n=>(tj P fs r).map ((f.offset,n,x)::·)
      |none=>none
    |none=>none
def tp (P:Program) (ps:Array (Nat×Operand)):Option (List (Nat×O)):=ps.toList.mapM fun(i,x)=>(cO P x).map (i,·)
def r5 (P:Program):Option Operand->Option (Option O)
  |none=>some none
  |some x=>(cO P x).map some
def tk (P:Program) (neg:Bool) (t:TypeId) (x y:Operand):Option gG:=
  match y with
  | .const (.slice none 0 0)=>match P.underlying t with
    |some (.slice _)=>(cO P x).map (gG.Q0 neg false)
    |_=>none
  | .const .nilFunc=>match P.underlying t with
    |some (.func ..)=>(cO P x).map (gG.Q0 neg true)
    |_=>none
  | .const (.pointer none)=>match P.underlying t with
    |some (.pointer _)=>(cO P x).map (gG.SK neg)
    |_=>none
  |_=>match T6 P t with
    |some (.sc s)=>do pure (.Oi neg s (<-cO P x) (<-cO P y))
    |some (.ag ts)=>do pure (.SJ neg ts (<-cO P x) (<-cO P y))
    |_=>none
def wq (P:Program) (op:BinOp) (t:TypeId) (x y:Operand):Option gG:=
  match op with
  | .eql=>tk P false t x y
  | .neq=>tk P true t x y
  | .shl=>do pure (.sh true (<-cO P x) (<-cO P y))
  | .shr=>do pure (.sh false (<-cO P x) (<-cO P y))
  |op=>match P.underlying t with
    |some (.int k)=>do pure (.bin op k (<-cO P x) (<-cO P y))
    |some .string=>do pure (.Ly op (<-cO P x) (<-cO P y))
    |_=>none
def tn (P:Program) (t:TypeId):Option (MK×K):=
  match P.underlying t with
  |some (.map k e)=>match ox P e,(P.info? e).bind (·.zero),fx P k,P.underlying k with
    |some false,some zv,some s,_=>(G2 zv).map fun z=>(⟨false,[s]⟩,z)
    |some false,some zv,none,some (.struct fs)=>match eM P 4 0 fs.toList,G2 zv with
      |some ts,some z=>if !P.stoodInHeld k/\fs.toList.all (fun f=>(fx P f.type).isSome)then some (⟨true,ts⟩,z)else none
      |_,_=>none
    |_,_,_,_=>none
  |_=>none
def nV (P:Program) (c:Call):Option gG:=
  match c.callee with
  | .builtin .len=>match c.args.toList,c.argTypes.toList with
    |[x],[t]=>match P.underlying t with
      |some (.slice _)=>(cO P x).map gG.len
      |some .string=>(cO P x).map gG.Mm
      |some (.map _ _)=>match tn P t,cO P x with
        |some (m,_),some x=>some (.mq (.len m) [x])
        |_,_=>none
      |some (.chan _ _)=>(cO P x).map gG.JN
      |_=>none
    |_,_=>none
  | .builtin .append=>match c.args.toList,c.argTypes.toList with
    |[x,y],[t,u]=>match P.underlying t with
      |some (.slice e)=>match ec P e,jO P e,P.info? e with
        |some (sz+1),some _,some i=>if i.bytes<=32768/\t=u then do pure (.append (sz+1) (<-cO P x) (<-cO P y))else none
        |_,_,_=>none
      |_=>none
    |_,_=>none
  | .builtin .clear=>match c.args.toList,c.argTypes.toList with
    |[x],[t]=>match P.underlying t with
      |some (.slice e)=>match ec P e,jO P e with
        |some (_+1),some z=>(cO P x).map (gG.clear z)
        |_,_=>none
      |_=>none
    |_,_=>none
  | .value (.func f)=>if fP P f then(c.args.toList.mapM (cO P)).map (gG.call f)else none
  | .value (.tmp t)=>(c.args.toList.mapM (cO P)).map (gG.uo (.t t))
  | .builtin .delete=>match c.args.toList,c.argTypes.toList with
    |[x,k],[t,_]=>match tn P t,cO P x,cO P k with
      |some (m,_),some x,some k=>some (.mw (.del m) [x,k])
      |_,_,_=>none
    |_,_=>none
  | .builtin .copy=>match c.args.toList,c.argTypes.toList with
    |[x,y],[t,_]=>match P.underlying t with
      |some (.slice e)=>match ec P e with
        |some (sz+1)=>do pure (.copy (sz+1) (<-cO P x) (<-cO P y))
        |_=>none
      |_=>none
    |_,_=>none
  |_=>none
def rM (P:Program) (o:Op):Option gG:=
  match o with
  | .move x| .assign x=>(cO P x).map gG.dq
  | .pick c a b=>do pure (.pick (<-cO P c) (<-cO P a) (<-cO P b))
  | .alloc e=>(jO P e).map gG.new
  | .box _ x=>(cO P x).map gG.box
  | .load t a=>do pure (.load (<-ox P t) (<-ec P t) (<-cO P a))
  | .store t a x=>do pure (.store (<-ec P t) (<-cO P a) (<-cO P x))
  | .nilCheck x=>(cO P x).map gG.Bi
  | .binOp op t x y _=>wq P op t x y
  | .unOp .not _ x=>(cO P x).map gG.not
  | .unOp .neg _ x=>(cO P x).map gG.neg
  | .convert s d x=>match P.underlying s,P.underlying d with
    |some (.int _),some (.int k)=>(cO P x).map (gG.conv k)
    |some .string,some .string=>(cO P x).map gG.Fu
    |_,_=>none
  | .slice t x lo hi none=>match P.underlying t with
    |some (.slice e)=>do
      pure (.slice (<-ec P e) (<-cO P x) (<-r5 P lo) (<-r5 P hi))
    |some .string=>do pure (.AS (<-cO P x) (<-r5 P lo) (<-r5 P hi))
    |_=>none
  | .fieldAddr s x i=>match P.underlying s with
    |some (.struct fs)=>match fs[i]? with
      |some f=>match ec P f.type with
        |some (_+1)=>(cO P x).map (gG.fW f.offset)
        |_=>none
      |none=>none
    |_=>none
  | .field s x i=>match P.underlying s with
    |some (.struct fs)=>match fs[i]? with
      |some f=>do pure (.field (<-ox P f.type) f.offset (<-ec P f.type) (<-cO P x))
      |none=>none
    |_=>none
  | .indexAddr t x i=>match P.underlying t with
    |some (.slice e)=>match ec P e with
      |some (m+1)=>do pure (.dQ (m+1) (<-cO P x) (<-cO P i))
      |_=>none
    |some (.array len e)=>match ec P e with
      |some (m+1)=>do pure (.Mc len (m+1) (<-cO P x) (<-cO P i))
      |_=>none
    |_=>none
  | .index t x i=>match P.underlying t with
    |some .string=>do pure (.Me (<-cO P x) (<-cO P i))
    |some (.array len e)=>do pure (.eG (<-ox P e) len (<-ec P e) (<-cO P x) (<-cO P i))
    |_=>none
  | .extract x i=>(cO P x).map (gG.extract i)
  | .build t ps=>match P.underlying t with
    |some (.struct fs)=>
      match jO P t,tp P ps with
      |some z,some l=>
        if fs.all (fun f=>(P.info? f.type).isSome)then(tj P fs l).map (gG.build z)else none
      |_,_=>none
    |some (.array _ e)=>
      match jO P t,tp P ps,ec P e with
      |some z,some l,some n=>some (.build z (l.map fun(i,x)=>(i*n,n,x)))
      |_,_,_=>none
    |_=>none
  | .buildSlice t len ps=>match P.underlying t with
    |some (.slice e)=>match ec P e,jO P e,tp P ps with
      |some (sz+1),some _,some l=>
        if len*(sz+1)<=4096/\l.map (·.1)=List.range len then some (.mh (sz+1) len (l.map (·.2)))else none
      |_,_,_=>none
    |_=>none
  | .makeFunc (.func f) first cQ=>
    if first= #[]/\fP P f then(cQ.toList.mapM (cO P)).map (gG.Mr f)else if cQ= #[]/\fP P f then(first.toList.mapM (cO P)).map (gG.Ms f)else none
  | .makeSlice t l c=>match P.underlying t with
    |some (.slice e)=>match ec P e,jO P e,P.info? e with
      |some (_+1),some z,some i=>if i.bytes<=32768 then do pure (.kc z (<-cO P l) (<-cO P c))else none
      |_,_,_=>none
    |_=>none
  | .call c=>nV P c
  | .makeChan t n=>match P.underlying t with
    |some (.chan _ e)=>match P.info? e with
      |some i=>if i.bytes<=32768 then(cO P n).map gG.JU else none
      |none=>none
    |_=>none
  | .send x y=>do pure (.snd (<-cO P x) (<-cO P y))
  | .recv t x false=>match P.underlying t with
    |some (.chan _ e)=>match (P.info? e).bind (·.zero)with
      |some _=>(cO P x).map gG.Px
      |none=>none
    |_=>none
  | .makeMap t none=>match tn P t with
    |some (m,_)=>some (.mq (.new m) [])
    |none=>none
  | .lookup t x k ok=>match tn P t,cO P x,cO P k with
    |some (m,z),some x,some k=>some (.mq (.look m ok z) [x,k])
    |_,_,_=>none
  | .mapUpdate t x k v| .insert t x k v=>match tn P t,cO P x,cO P k,cO P v with
    |some (m,_),some x,some k,some v=>some (.mw (.set m) [x,k,v])
    |_,_,_,_=>none
  | .makeInterface _ _=>some .bad
  | .panic _=>some .bad
  |_=>none
inductive TL where
  |pure|look|make|write
  deriving DecidableEq,Repr
def gG.cls:gG->TL
  | .new _| .box _| .mh .. | .kc .. | .mq (.new _) _| .JU _=>.make
  | .load .. | .dQ .. | .slice .. | .call .. | .uo .. | .mq .. | .JN _=>.look
  | .store .. | .append .. | .copy .. | .clear .. | .mw .. | .snd .. | .Px _=>.write
  |_=>.pure
def clash:TL->TL->Bool
  | .pure,_|_,.pure=>false
  | .write,_|_,.write=>true
  |_,_=>false
def jG (ops:Array Oper):Array Nat:=Region.before ops
def rD:gG->Bool:=fun o=>o.cls==.make||o.cls==.write
def gG.mi:gG->Bool
  | .call .. | .uo .. =>true
  |_=>false
def DF (ops:Array Oper) (o:Oper):Option (Option (Nat×Bool)):=
  match o.guard with
  |none=>some none
  |some (i,b)=>match (ops[i]?).bind (·.dst)with
    |some t=>some (some (t,b))
    |none=>none
def kY (P:Program) (ops:Array Oper) (nt site0:Nat) (draw mk:Bool) (bs:Array Nat) (hidden:List (Nat×Bool)) (j:Nat) (o:Oper):Option bj:=do
  let v <-rM P o.op
  let g <-DF ops o
  if (o.dst.all fun d=>decide (d<nt))then
    pure {dst:=o.dst,op:=v,guard:=g,site:=site0+j,hid:=if draw then(hidden.filter fun(i,m)=>m&& !(bs.getD j 0).testBit i&&(i !=j||mk&&v.mi)).map fun(i,_)=>site0+i else[]}
  else none
def allM {α:Type} (f:Nat->Oper->Option α):List Oper->Nat->Option (List α)
  |[],_=>some []
  |o::r,j=>do pure ((<-f j o)::(<-allM f r (j+1)))
def gZ:O->List Nat
  | .t n=>[n]
  |_=>[]
def xn:Option O->List Nat
  |some x=>gZ x
  |none=>[]
def gG.gN:gG->List Nat
  | .clear _ x| .dq x| .box x| .load _ _ x| .Bi x| .Q0 _ _ x| .SK _ x| .not x| .neg x| .conv _ x| .Fu x| .fW _ x| .field _ _ _ x| .extract _ x| .len x| .Mm x| .JU x| .JN x| .Px x=>gZ x
  | .pick c a b=>gZ c++gZ a++gZ b
  | .new _| .bad=>[]
  | .build _ ps=>ps.flatMap fun(_,_,x)=>gZ x
  | .mh _ _ ps=>ps.flatMap gZ
  | .store _ a x| .snd a x=>gZ a++gZ x
  | .bin _ _ x y| .sh _ x y| .Ly _ x y| .Oi _ _ x y| .SJ _ _ x y| .dQ _ x y| .Mc _ _ x y| .Me x y| .eG _ _ _ x y| .append _ x y| .copy _ x y| .kc _ x y=>gZ x++gZ y
  | .slice _ x lo hi| .AS x lo hi=>gZ x++xn lo++xn hi
  | .Mr _ l| .Ms _ l| .call _ l| .mq _ l| .mw _ l=>l.flatMap gZ
  | .uo x l=>gZ x++l.flatMap gZ
def bj.gN (v:bj):List Nat:=v.op.gN++(match v.guard with|some (t,_)=>[t]|none=>[])
def ub (x y:bj):Bool:=
  (match x.dst with
   |some d=> !y.gN.contains d&&y.dst !=some d
   |none=>true)&&
  (match y.dst with
   |some d=> !x.gN.contains d
   |none=>true)
def bj.makes (v:bj):Bool:=rD v.op||v.op.mi&&v.hid.contains v.site
def FC (x y:bj):Bool:=
  ub x y&& !clash x.op.cls y.op.cls&&(!x.makes||y.hid.contains x.site)&&(!y.makes||x.hid.contains y.site)&&x.site !=y.site
def Fw (ops:Array Oper):Bool:=ops.toList.zipIdx.all fun(o,j)=>o.after.all fun e=> !Region.binds .any e||decide (e.on<j)
def pc (ops:Array Oper) (vl:List bj) (bs:Array Nat):Bool:=
  Fw ops&&vl.zipIdx.all fun(y,j)=>vl.zipIdx.all fun(x,i)=> !(decide (i<j))||(bs.getD j 0).testBit i||FC x y
def r6 (P:Program) (nt site0:Nat) (ops:Array Oper) (draw mk:Bool):Option (List bj):=
  let bs:=if draw then jG ops else #[]
  let hidden:=if draw then ops.toList.zipIdx.map fun(o,i)=>(i,((rM P o.op).map fun v=>rD v||mk&&v.mi).getD false)else[]
  match allM (kY P ops nt site0 draw mk bs hidden) ops.toList 0 with
  |some vl=>if !draw||pc ops vl bs then some vl else none
  |none=>none
def lk (v:bj):Bool:= !v.op.mi&&v.op.cls !=.write
def y5 (x y:bj):Bool:=ub x y&&x.op.cls==.pure||FC x y&&lk x&&lk y
def qU (ops:Array Oper) (vl:List bj) (bs:Array Nat) (listed:Array Bool) (i:Nat):Bool:=
  match vl[i]? with
  |some x=>(List.range ops.size).all fun j=>listed.getD j false||j==i||(bs.getD j 0).testBit i||(match vl[j]? with|some y=>y5 x y|none=>false)
  |none=>false
def NH (vl:List bj) (x:bj):Option (Nat×Nat×O):=
  match x.op,x.guard with
  | .append _ (.t t) y,none=>match vl.find? fun v=>v.dst==some t&&v.op.cls==.make with
    |some v=>some (t,v.site,y)
    |none=>none
  |_,_=>none
def FB (s:Nat) (x y:bj):Bool:=ub x y&&lk y&&y.hid.contains s&&y.hid.contains x.site&&y.site !=s&&y.site !=x.site
def pe (ops:Array Oper) (vl:List bj) (bs:Array Nat) (listed:Array Bool) (i s:Nat):Bool:=
  match vl[i]? with
  |some x=>(List.range ops.size).all fun j=>listed.getD j false||j==i||(bs.getD j 0).testBit i||(match vl[j]? with|some y=>FB s x y|none=>false)
  |none=>false
def Pk (ops:Array Oper) (vl:List bj) (bs:Array Nat) (listed:Array Bool) (i:Nat):Option (Nat×Nat×Nat×O×bj):=
  match vl[i]? with
  |some x=>match NH vl x with
    |some (t,s,y)=>if pe ops vl bs listed i s then some (i,t,s,y,x)else none
    |none=>none
  |none=>none
def BH:List VC->Option VC
  |[]=>none
  |[c]=>some c
  |c::r=>(BH r).map (VC.both c)
def xP (ops:Array Oper) (vl:List bj) (bs:Array Nat):Nat->Array Bool->Option VC
  |0,listed=>
    match Region.ready .any ops listed with
    |[]=>some (.eL false [])
    |_::_=>none
  |n+1,listed=>
    match Region.ready .any ops listed with
    |[]=>some (.eL false [])
    |r::rs=>let rdy:=r::rs
      match rdy.find? (qU ops vl bs listed)with
      |some i=>match vl[i]? with
        |some vo=>(xP ops vl bs n (listed.setIfInBounds i true)).map (VC.one vo)
        |none=>none
      |none=>match rdy.findSome? (Pk ops vl bs listed)with
        |some (i,t,s,y,vo)=>(xP ops vl bs n (listed.setIfInBounds i true)).map fun c=>VC.loc t s y (.one vo c)
        |none=>match rdy.mapM fun i=>(vl[i]?).bind fun vo=>(xP ops vl bs n (listed.setIfInBounds i true)).map (VC.one vo)with
          |some l=>BH l
          |none=>none
def NF:Op->Bool
  | .send .. | .recv .. =>true
  |_=>false
def QT (P:Program) (nt site0:Nat) (ops:Array Oper) (draw:Bool) (mode:Nat):Option VC:=
  if draw&&mode==2 then
    match allM (kY P ops nt site0 true false (jG ops) (ops.toList.zipIdx.map fun(o,i)=>(i,((rM P o.op).map rD).getD false))) ops.toList 0 with
    |some vl=>xP ops vl (jG ops) ops.size (Array.replicate ops.size false)
    |none=>none
  else if !draw&&ops.any (fun o=>NF o.op)then(r6 P nt site0 ops false false).map VC.Ob
  else(r6 P nt site0 ops draw (mode==1)).map (VC.eL draw)
def xh (md:List (Nat×Nat)) (id:Nat):Nat:=
  match md with
  |[]=>0
  |(i,m)::r=>if i=id then m else xh r id
def jt (P:Program) (md:List (Nat×Nat)) (nt fid:Nat):Code->Option VC
  | .skip=>some .skip
  | .region id ops draw=>QT P nt ((fid*1000+id)*1000) ops draw (xh md id)
  | .seq a b=>do pure (.seq (<-jt P md nt fid a) (<-jt P md nt fid b))
  | .cond c x y=>do pure (.cond (<-cO P c) (<-jt P md nt fid x) (<-jt P md nt fid y))
  | .block id c=>(jt P md nt fid c).map (VC.block id)
  | .loop c=>(jt P md nt fid c).map VC.loop
  | .exit id=>some (.exit id)
  | .ret=>some .ret
  |_=>none
def DG (P:Program) (r:ResultVar):Option om:=
  match r with
  | .tmp t=>some (.tmp t)
  | .cell a t=>do pure (.cell (<-ox P t) (<-ec P t) a)
def yh (P:Program) (f:Nat) (md:List (Nat×Nat)):Option Bh:=
  match P.funcs[f]? with
  |some fn=>match fn.body with
    |some c=>do
      let b <-jt P md fn.ntmps f c
      let r <-fn.results.toList.mapM (DG P)
      if fn.params.size+fn.nfree<=fn.ntmps then pure {ntmps:=fn.ntmps,zt:=fn.params.size+fn.nfree,body:=b,res:=r}else none
    |none=>none
  |none=>none
def mz (P:Program) (f:Nat):Option Bh:=yh P f []
structure Row where
 w:Bool
 sz:Nat
 rows:List (List AV)
abbrev Rows:=Id->Option Row
structure ar where
 get:Rows
 next:Nat
abbrev Env:=Nat->AV
def upd (env:Env):Option Nat->AV->Env
 |some d,v=>fun t=>if t=d then v else env t
 |none,_=>env
inductive Ex where
 |normal
 |exit (id:Nat)
 |ret
 deriving DecidableEq
def cU (env:Env):O->AV
 | .t n=>env n
 | .k c=>c.av
 | .ka cs=>.agg (cs.map K.av)
 | .f n=>.fn n []
def bt (g:Rows) (id:Id) (r:Row):Rows:=fun i=>if i=id then some r else g i
def cw (g:Rows) (id:Id):Rows:=fun i=>if i=id then none else g i
def fZ:List Nat->Nat->Rows->Rows
 |[],_,g=>g
 |h::t,n,g=>fun id=>if (h::t).contains id.site=true/\id.bW=n then none else g id
def ro (g:Rows):Rows:=fun id=>(g id).map fun r=>{r with w:=false}
def part (agg:Bool) (n:Nat) (cs:List AV):Option AV:=
 if agg then(if n<=cs.length then some (.agg (cs.take n))else none)else cs.head?
def rowAt (g:Rows) (id:Id) (i:Nat):Option (List AV):=(g id).bind (·.rows[i]?)
def ld (g:Rows) (agg:Bool) (n:Nat):AV->Option AV
 | .ptr id i off=>(rowAt g id i).bind fun cs=>part agg n (cs.drop off)
 | .dn cs=>part agg n cs
 |_=>none
def dG:BinOp->IntKind->Int->Int->Option AV
 | .add,k,a,b=>some (.int k (k.wrap (a+b)))
 | .sub,k,a,b=>some (.int k (k.wrap (a-b)))
 | .mul,k,a,b=>some (.int k (k.wrap (a*b)))
 | .quo,k,a,b=>if b=0 then none else some (.int k (k.wrap (a.tdiv b)))
 | .rem,k,a,b=>if b=0 then none else some (.int k (a.tmod b))
 | .lss,_,a,b=>some (.bool (decide (a<b)))
 | .leq,_,a,b=>some (.bool (decide (a<=b)))
 | .gtr,_,a,b=>some (.bool (decide (b<a)))
 | .geq,_,a,b=>some (.bool (decide (b<=a)))
 | .and,k,a,b=>some (.int k (k.wrap (BitVec.ofInt k.bits a&&& BitVec.ofInt k.bits b).toNat))
 | .or,k,a,b=>some (.int k (k.wrap (BitVec.ofInt k.bits a|||BitVec.ofInt k.bits b).toNat))
 | .xor,k,a,b=>some (.int k (k.wrap (BitVec.ofInt k.bits a ^^^ BitVec.ofInt k.bits b).toNat))
 |_,_,_,_=>none
def ei (op:BinOp):AV->AV->Option AV
 | .int k a,.int k' b=>if k=k' then dG op k a b else none
 |_,_=>none
def iu (left:Bool):AV->AV->Option AV
 | .int k a,.int _ b=>if b<0 then none else some (.int k (if left then k.wrap (a*2 ^ min b.toNat k.bits)else a.fdiv (2 ^ min b.toNat k.bits)))
 |_,_=>none
def eB:BinOp->ByteArray->ByteArray->Option AV
 | .add,a,b=>if a.size+b.size<=9223372036854775807 then some (.str (a++b))else none
 | .lss,a,b=>some (.bool (Op.bytesLess a.toList b.toList))
 | .leq,a,b=>some (.bool (Op.bytesLess a.toList b.toList||(a.toList==b.toList)))
 | .gtr,a,b=>some (.bool !(Op.bytesLess a.toList b.toList||(a.toList==b.toList)))
 | .geq,a,b=>some (.bool !(Op.bytesLess a.toList b.toList))
 |_,_,_=>none
def dm (op:BinOp):AV->AV->Option AV
 | .str a,.str b=>eB op a b
 |_,_=>none
def fY:TS->AV->AV->Option Bool
 | .tI,.int k a,.int k' b=>if k=k' then some (decide (a=b))else none
 | .tB,.bool a,.bool b=>some (a==b)
 | .tS,.str a,.str b=>some (decide (a=b))
 |_,_,_=>none
def e6:List TS->List AV->List AV->Option Bool
 |[],[],[]=>some true
 |t::ts,a::r,b::s=>match fY t a b,e6 ts r s with
  |some x,some y=>some (x&&y)
  |_,_=>none
 |_,_,_=>none
def dt (neg b:Bool):Bool:=if neg then !b else b
def di:AV->Option Bool
 | .cC=>some true
 | .own _ _ _=>some false
 | .sl (_::_)=>some false
 |_=>none
def dh:AV->Option Bool
 | .jh=>some true
 | .fn _ _=>some false
 |_=>none
def KQ:AV->Option Bool
 | .gY=>some true
 | .ptr .. | .dn _=>some false
 |_=>none
def ep (Mh:Bool) (x:AV):Option Bool:=if Mh then dh x else di x
def dV (len:Nat):Option AV->Option Nat
 |none=>some len
 |some (.int _ n)=>if 0<=n/\n<=len then some n.toNat else none
 |_=>none
def dW (h:Nat):Option AV->Option Nat
 |none=>some 0
 |some (.int _ n)=>if 0<=n/\n<=h then some n.toNat else none
 |_=>none
def bU (g:Rows) (sz:Nat) (x:AV) (lo hi:Option AV):Option AV:=
 match x with
 | .cC=>(dV 0 hi).bind fun h=>(dW h lo).map fun _=>.cC
 | .sl rows=>(dV rows.length hi).bind fun h=>(dW h lo).bind fun l=>if ∀cs∈rows,cs.length=sz then some (.sl ((rows.drop l).take (h-l)))else none
 | .own id off len=>(g id).bind fun r=>(dV len hi).bind fun h=>(dW h lo).bind fun l=>if r.sz=sz then some (.own id (off+l) (h-l))else none
 |_=>none
def bd (x:AV) (lo hi:Option AV):Option AV:=
 match x with
 | .str s=>(dV s.size hi).bind fun h=>(dW h lo).map fun l=>.str (s.extract l h)
 |_=>none
def Fe (off:Nat):AV->Option AV
 | .ptr id i o=>some (.ptr id i (o+off))
 | .dn cs=>some (.dn (cs.drop off))
 |_=>none
def bQ (g:Rows) (sz:Nat):AV->AV->Option AV
 | .sl rows,.int _ n=>if 0<=n then(rows[n.toNat]?).bind fun cs=>if cs.length=sz then some (.dn cs)else none else none
 | .own id off len,.int _ n=>if 0<=n/\n<len then(g id).bind fun r=>if r.sz=sz then some (.ptr id (off+n.toNat) 0)else none else none
 |_,_=>none
def cZ (len sz:Nat):AV->AV->Option AV
 | .ptr id r off,.int _ n=>if 0<=n/\n<len then some (.ptr id r (off+n.toNat*sz))else none
 | .dn cs,.int _ n=>if 0<=n/\n<len then some (.dn (cs.drop (n.toNat*sz)))else none
 |_,_=>none
def db:AV->AV->Option AV
 | .str s,.int _ n=>if 0<=n then(s[n.toNat]?).map fun b=>.int .u8 b.toNat else none
 |_,_=>none
def da (agg:Bool) (len n:Nat):AV->AV->Option AV
 | .agg cs,.int _ i=>if 0<=i/\i<len then part agg n (cs.drop (i.toNat*n))else none
 |_,_=>none
def ek:AV->Option Nat
 | .cC=>some 0
 | .sl rows=>some rows.length
 | .own _ _ n=>some n
 |_=>none
def er:AV->Option AV
 | .bool b=>some (.bool !b)
 |_=>none
def eo:AV->Option AV
 | .int k n=>some (.int k (k.wrap (0-n)))
 |_=>none
def cY (k:IntKind):AV->Option AV
 | .int _ n=>some (.int k (k.wrap n))
 |_=>none
def ck:AV->Option AV
 | .str s=>some (.str s)
 |_=>none
def dj:AV->AV->AV->Option AV
 | .bool c,a,b=>some (if c then a else b)
 |_,_,_=>none
def ej:AV->Option AV
 | .ptr id i o=>some (.ptr id i o)
 | .dn cs=>some (.dn cs)
 |_=>none
def bP (agg:Bool) (off n:Nat):AV->Option AV
 | .agg cs=>if off+n<=cs.length then part agg n (cs.drop off)else none
 |_=>none
def aQ (i:Nat):AV->Option AV
 | .gO vs=>vs[i]?
 |_=>none
def dd:AV->Option AV
 | .str s=>some (.int .i64 s.size)
 |_=>none
def rowOf (sz:Nat) (v:AV):Option (List AV):=if v.cells.length=sz/\v.cells.all AV.cell then some v.cells else none
def cR (v:AV):Option (List AV):=if v.cells.all AV.cell then some v.cells else none
def rowsOf (sz:Nat):List AV->Option (List (List AV))
 |[]=>some []
 |v::r=>(rowOf sz v).bind fun c=>(rowsOf sz r).map fun cs=>c::cs
def cJ:List AV->List (Nat×Nat×AV)->Option (List AV)
 |cs,[]=>some cs
 |cs,(off,n,v)::r=>if v.cells.length=n/\off+n<=cs.length/\v.cells.all AV.cell then cJ (cs.take off++v.cells++cs.drop (off+n)) r else none
def dH:Nat:=16777216
def iq (zero:List K):AV->AV->Option (Nat×Row)
 | .int _ l,.int _ c=>if 0<=l/\l<=c/\c<=dH then some (l.toNat,⟨true,zero.length,List.replicate l.toNat (zero.map K.av)⟩)else none
 |_,_=>none
def sF:Nat:=1000000000
def MK.ks (m:MK):Nat:=m.ts.length
def MK.qd (m:MK):Nat:=sF+m.ks
def AV.isAgg:AV->Bool
 | .agg _=>true
 |_=>false
def gn (m:MK) (key:List AV):List (List AV)->Nat->Option (Option Nat)
 |[],_=>some none
 |r::l,i=>match e6 m.ts key (r.take m.ks)with
  |some true=>some (some i)
  |some false=>gn m key l (i+1)
  |none=>none
def dX (g:Rows) (m:MK):AV->Option (Id×Row)
 | .map id m'=>if m'=m then(g id).map fun r=>(id,r)else none
 |_=>none
def fR (m:MK) (k:AV) (rows:List (List AV)):Option (Option Nat):=if k.isAgg=m.ka/\k.cells.length=m.ks/\k.cells.all AV.cell then gn m k.cells rows 0 else none
def eh (m:MK) (z:K) (rows:List (List AV)):Option Nat->Option AV
 |some i=>(rows[i]?).bind fun cs=>cs[m.ks]?
 |none=>some z.av
def bF (q:MQ) (vs:List AV) (g:Rows) (id:Id):Option (AV×Option Row):=
 match q,vs with
 | .new m,[]=>some (.map id m,some ⟨true,m.qd,[]⟩)
 | .look m ok z,[x,k]=>(dX g m x).bind fun p=>(fR m k p.2.rows).bind fun fi=>(eh m z p.2.rows fi).map fun v=>(if ok then .gO [v,.bool fi.isSome]else v,none)
 | .len m,[x]=>(dX g m x).map fun p=>(.int .i64 p.2.rows.length,none)
 |_,_=>none
def qT:Nat:=2000000000
def de:AV->Option Nat
 | .int _ n=>if 0<=n/\n<=1048576 then some n.toNat else none
 |_=>none
def dc (g:Rows):AV->Option AV
 | .r7 id=>(g id).map fun r=>.int .i64 r.rows.length
 |_=>none
def ev (g:Rows):AV->AV->Option Rows
 | .r7 id,v=>(g id).bind fun r=>if r.w/\qT+r.rows.length<r.sz/\v.cell then some (bt g id {r with rows:=r.rows++[[v]]})else none
 |_,_=>none
def eu (g:Rows):AV->Option (AV×Rows)
 | .r7 id=>(g id).bind fun r=>match r.rows with
  |[v]::rest=>if r.w then some (v,bt g id {r with rows:=rest})else none
  |_=>none
 |_=>none
def dR (rows:List (List AV)) (e:List AV):Option Nat->List (List AV)
 |some i=>rows.set i e
 |none=>rows++[e]
def dO (rows:List (List AV)):Option Nat->List (List AV)
 |some i=>rows.eraseIdx i
 |none=>rows
def bJ (q:MW) (vs:List AV) (g:Rows):Option Rows:=
 match q,vs with
 | .set m,[x,k,v]=>(dX g m x).bind fun p=>(fR m k p.2.rows).bind fun fi=>if p.2.w/\v.cell/\v.isAgg=false then some (bt g p.1 {p.2 with rows:=dR p.2.rows (k.cells++[v]) fi})else none
 | .del m,[x,k]=>(dX g m x).bind fun p=>(fR m k p.2.rows).bind fun fi=>if p.2.w then some (bt g p.1 {p.2 with rows:=dO p.2.rows fi})else none
 |_,_=>none
def eS (o:gG) (ρ:O->AV) (g:Rows) (id:Id):Option (AV×Option Row):=
 match o with
 | .dq x=>some (ρ x,none)
 | .pick c a b=>(dj (ρ c) (ρ a) (ρ b)).map (·,none)
 | .new zero=>some (.ptr id 0 0,some ⟨true,zero.length,[zero.map K.av]⟩)
 | .box x=>(cR (ρ x)).map fun cs=>(.ptr id 0 0,some ⟨true,cs.length,[cs]⟩)
 | .build zero parts=>(cJ (zero.map K.av) (parts.map fun(o,n,x)=>(o,n,ρ x))).map fun cs=>(.agg cs,none)
 | .mh sz len parts=>(rowsOf sz (parts.map ρ)).map fun rs=>(.own id 0 len,some ⟨true,sz,rs⟩)
 | .load agg n a=>(ld g agg n (ρ a)).map (·,none)
 | .Bi x=>(ej (ρ x)).map (·,none)
 | .bin op _ x y=>(ei op (ρ x) (ρ y)).map (·,none)
 | .sh left x y=>(iu left (ρ x) (ρ y)).map (·,none)
 | .Ly op x y=>(dm op (ρ x) (ρ y)).map (·,none)
 | .Oi neg t x y=>(fY t (ρ x) (ρ y)).map fun b=>(.bool (dt neg b),none)
 | .SJ neg ts x y=>match ρ x,ρ y with
  | .agg xs,.agg ys=>(e6 ts xs ys).map fun b=>(.bool (dt neg b),none)
  |_,_=>none
 | .Q0 neg Mh x=>(ep Mh (ρ x)).map fun b=>(.bool (dt neg b),none)
 | .SK neg x=>(KQ (ρ x)).map fun b=>(.bool (dt neg b),none)
 | .not x=>(er (ρ x)).map (·,none)
 | .neg x=>(eo (ρ x)).map (·,none)
 | .conv k x=>(cY k (ρ x)).map (·,none)
 | .Fu x=>(ck (ρ x)).map (·,none)
 | .slice sz x lo hi=>(bU g sz (ρ x) (lo.map ρ) (hi.map ρ)).map (·,none)
 | .AS x lo hi=>(bd (ρ x) (lo.map ρ) (hi.map ρ)).map (·,none)
 | .fW off x=>(Fe off (ρ x)).map (·,none)
 | .field agg off n x=>(bP agg off n (ρ x)).map (·,none)
 | .dQ sz x i=>(bQ g sz (ρ x) (ρ i)).map (·,none)
 | .Mc len sz x i=>(cZ len sz (ρ x) (ρ i)).map (·,none)
 | .Me x i=>(db (ρ x) (ρ i)).map (·,none)
 | .eG agg len n x i=>(da agg len n (ρ x) (ρ i)).map (·,none)
 | .extract i x=>(aQ i (ρ x)).map (·,none)
 | .len x=>(ek (ρ x)).map fun(n:Nat)=>(AV.int .i64 (n:Int),none)
 | .Mm x=>(dd (ρ x)).map (·,none)
 | .Mr f cQ=>some (.fn f (cQ.map ρ),none)
 | .Ms f first=>some (.uG f (first.map ρ),none)
 | .kc zero l c=>(iq zero (ρ l) (ρ c)).map fun(n,r)=>(.own id 0 n,some r)
 | .mq q xs=>bF q (xs.map ρ) g id
 | .JU x=>(de (ρ x)).map fun n=>(.r7 id,some ⟨true,qT+n,[]⟩)
 | .JN x=>(dc g (ρ x)).map (·,none)
 |_=>none
def br (g:Rows):AV->Option (List (List AV))
 | .cC=>some []
 | .sl rows=>some rows
 | .own id off len=>(g id).bind fun r=>if off+len<=r.rows.length then some ((r.rows.drop off).take len)else none
 |_=>none
def cN (cs:List AV) (off:Nat) (xs:List AV):List AV:=cs.take off++xs++cs.drop (off+xs.length)
def bV (g:Rows) (n:Nat) (v:AV):AV->Option Rows
 | .ptr id i off=>(g id).bind fun r=>(r.rows[i]?).bind fun cs=>
  if r.w/\v.cells.length=n/\v.cells.all AV.cell/\off+n<=cs.length then some (bt g id {r with rows:=r.rows.set i (cN cs off v.cells)})else none
 |_=>none
def aZ (g:Rows) (id:Id) (sz:Nat) (x:AV) (ys:List (List AV)):Option (AV×Rows):=
 match x with
 | .cC=>match ys with
  |[]=>some (.cC,g)
  |y::r=>if (y::r).length<=dH/\(y::r).all (fun c=>c.length==sz&&c.all AV.cell)then some (.own id 0 (y::r).length,bt g id ⟨true,sz,y::r⟩)else none
 | .own i 0 len=>(g i).bind fun r=>
  if r.w/\r.sz=sz/\len=r.rows.length/\len+ys.length<=dH/\ys.all (fun c=>c.length==sz&&c.all AV.cell)then some (.own id 0 (len+ys.length),bt (cw g i) id ⟨true,sz,r.rows++ys⟩)else none
 |_=>none
def F9 (g:Rows) (sz:Nat) (x:AV) (ys:List (List AV)):Option (AV×Rows):=
 match x with
 | .own i off len=>(g i).bind fun r=>
  if r.w/\r.sz=sz/\off+len<=r.rows.length/\ys.all (fun c=>c.length==sz&&c.all AV.cell)then
   some (.int .i64 (min ys.length len:Nat),bt g i {r with rows:=r.rows.take off++ys.take (min ys.length len)++r.rows.drop (off+min ys.length len)})else none
 |_=>none
def bK (g:Rows) (zero:List K) (x:AV):Option Rows:=
 match x with
 | .cC=>some g
 | .own i off len=>(g i).bind fun r=>
  if r.w/\r.sz=zero.length/\off+len<=r.rows.length then
   some (bt g i {r with rows:=r.rows.take off++List.replicate len (zero.map K.av)++r.rows.drop (off+len)})else none
 |_=>none
def ga (o:gG) (ρ:O->AV) (g:Rows) (id:Id):Option (AV×Rows):=
 match o with
 | .store n a x=>(bV g n (ρ x) (ρ a)).map fun g'=>(.undef,g')
 | .append sz x y=>(br g (ρ y)).bind fun ys=>aZ g id sz (ρ x) ys
 | .copy sz x y=>(br g (ρ y)).bind fun ys=>F9 g sz (ρ x) ys
 | .clear zero x=>(bK g zero (ρ x)).map fun g'=>(.undef,g')
 | .mw q xs=>(bJ q (xs.map ρ) g).map fun g'=>(.undef,g')
 |_=>none
def wu:AV->List AV->Option (Nat×List AV)
 | .fn f cQ,l=>some (f,l++cQ)
 | .uG f first,l=>some (f,first++l)
 |_,_=>none
abbrev fN:=Nat->List AV->ar->(AV->ar->Prop)->Prop
mutual
def fz (g:Rows):Nat->AV->Option AV
 |0,_=>none
 |n+1,a=>match a with
  | .own id off len=>match g id with
   |some r=>if r.w then(if off+len<=r.rows.length then(dU g n ((r.rows.drop off).take len)).map AV.sl else none)else none
   |none=>none
  | .ptr id i off=>match g id with
   |some r=>if r.w then(match r.rows[i]? with
    |some cs=>(cV g n (cs.drop off)).map AV.dn
    |none=>none)else none
   |none=>none
  | .agg cs=>(cV g n cs).map AV.agg
  | .gO vs=>(cV g n vs).map AV.gO
  | .fn f cQ=>if cQ.all AV.cell then(cV g n cQ).map (AV.fn f)else none
  | .map _ _| .uG _ _| .r7 _=>none
  |v=>some v
 termination_by n _=>(n,0)
def cV (g:Rows):Nat->List AV->Option (List AV)
 |n,[]=>some []
 |n,a::r=>match fz g n a with
  |some b=>(cV g n r).map (b::·)
  |none=>none
 termination_by n l=>(n,l.length+1)
def dU (g:Rows):Nat->List (List AV)->Option (List (List AV))
 |n,[]=>some []
 |n,c::r=>match cV g n c with
  |some b=>(dU g n r).map (b::·)
  |none=>none
 termination_by n l=>(n,(l.map (fun c=>c.length+2)).sum+1)
 decreasing_by all_goals simp_wf;try omega
end
mutual
def gE (g:Rows):Nat->AV->Option AV
 |0,_=>none
 |n+1,a=>match a with
  | .own id off len=>match g id with
   |some r=>if r.w then(if off+len<=r.rows.length then(iv g n ((r.rows.drop off).take len)).map AV.sl else none)else none
   |none=>none
  | .ptr id i off=>match g id with
   |some r=>if r.w then(match r.rows[i]? with
    |some cs=>(ef g n (cs.drop off)).map AV.dn
    |none=>none)else none
   |none=>none
  | .agg cs=>(ef g n cs).map AV.agg
  | .gO vs=>(ef g n vs).map AV.gO
  | .int k m=>some (.int k m)
  | .bool b=>some (.bool b)
  | .str s=>some (.str s)
  | .cC=>some .cC
  | .gY=>some .gY
  | .jh=>some .jh
  | .jo=>some .jo
  |_=>none
 termination_by n _=>(n,0)
def ef (g:Rows):Nat->List AV->Option (List AV)
 |n,[]=>some []
 |n,a::r=>match gE g n a with
  |some b=>(ef g n r).map (b::·)
  |none=>none
 termination_by n l=>(n,l.length+1)
def iv (g:Rows):Nat->List (List AV)->Option (List (List AV))
 |n,[]=>some []
 |n,c::r=>match ef g n c with
  |some b=>(iv g n r).map (b::·)
  |none=>none
 termination_by n l=>(n,(l.map (fun c=>c.length+2)).sum+1)
 decreasing_by all_goals simp_wf;try omega
end
def dP (g:Rows):Rows:=fun id=>(g id).map fun r=>{r with w:=true}
def PC (X:fN) (f:Nat) (args:List AV) (σ:ar) (K:AV->Prop):Prop:=
 X f args ⟨ro σ.get,σ.next⟩ fun r σ'=>∃r',fz σ'.get 6 r=some r'/\K r'
def PCv (X:fN) (f:Nat) (args:List AV) (σ:ar) (K:AV->Prop):Prop:=
 ∃eH,cV (dP σ.get) 6 args=some eH/\X f eH ⟨fun _=>none,σ.next⟩ fun r σ'=>∃r',gE σ'.get 6 r=some r'/\K r'
def gC (X:fN) (f:Nat) (args:List AV) (σ:ar) (K:AV->Prop):Prop:=PC X f args σ K∨PCv X f args σ K
def aO (g:Option (Nat×Bool)) (env:Env):Bool:=
 match g with
 |none=>true
 |some (t,b)=>match env t with
  | .bool c=>c==b
  |_=>false
def AV.plain:AV->Bool
 | .int .. | .bool _| .str _| .cC| .gY| .jh| .jo=>true
 |_=>false
def CM (X:fN) (f:Nat) (args:List AV) (σ:ar) (sz:Nat) (rows:List (List AV)):Prop:=
 (∀c∈rows,∀a∈c,a.plain=true)/\∃eH,cV (dP σ.get) 6 args=some eH/\X f eH ⟨fun _=>none,σ.next⟩ fun r σ'=>∃id,r=.own id 0 rows.length/\σ'.get id=some ⟨true,sz,rows⟩
def cK (X:fN) (draw:Bool) (hid:List Nat) (site:Nat) (f:Nat) (args:List AV) (σ:ar) (next:AV->ar->Prop):Prop:=
 (∃r,gC X f args ⟨fZ hid σ.next σ.get,σ.next+1⟩ (fun r'=>r'=r)/\next r σ)∨
 (draw=false/\X f args ⟨σ.get,σ.next+1⟩ next)∨
 (hid.contains site=true/\∃sz rows,CM X f args ⟨fZ hid σ.next σ.get,σ.next+1⟩ sz rows/\next (.own ⟨site,σ.next⟩ 0 rows.length) ⟨bt σ.get ⟨site,σ.next⟩ ⟨true,sz,rows⟩,σ.next⟩)
def fM (X:fN) (draw:Bool) (o:bj) (env:Env) (σ:ar) (next:AV->ar->Prop):Prop:=
 match o.op with
 | .call f args=>cK X draw o.hid o.site f (args.map (cU env)) σ next
 | .uo x args=>match cU env x with
  | .fn f cQ=>cK X draw o.hid o.site f (args.map (cU env)++cQ) σ next
  | .uG f first=>cK X draw o.hid o.site f (first++args.map (cU env)) σ next
  |_=>False
 | .store .. | .append .. | .copy .. | .clear .. | .mw .. =>match ga o.op (cU env) σ.get ⟨o.site,σ.next⟩with
  |some (v,g)=>next v ⟨g,σ.next⟩
  |none=>False
 |_=>match eS o.op (cU env) (fZ o.hid σ.next σ.get) ⟨o.site,σ.next⟩with
  |some (v,some r)=>next v ⟨bt σ.get ⟨o.site,σ.next⟩ r,σ.next⟩
  |some (v,none)=>next v σ
  |none=>False
def wpOps (X:fN) (draw:Bool):List bj->(Env->ar->Prop)->Env->ar->Prop
 |[],K,env,σ=>K env ⟨σ.get,σ.next+1⟩
 |o::r,K,env,σ=>
  if aO o.guard env then fM X draw o env σ fun v σ'=>wpOps X draw r K (upd env o.dst v) σ'
  else wpOps X draw r K (upd env o.dst .undef) σ
def cI:List bj->(Env->ar->Prop)->Env->ar->Prop
 |[],K,env,σ=>K env ⟨σ.get,σ.next+1⟩
 |o::r,K,env,σ=>o.guard=none/\match o.op with
  | .snd x y=>match ev σ.get (cU env x) (cU env y)with
   |some g=>cI r K (upd env o.dst .undef) ⟨g,σ.next⟩
   |none=>False
  | .Px x=>match eu σ.get (cU env x)with
   |some (v,g)=>cI r K (upd env o.dst v) ⟨g,σ.next⟩
   |none=>False
  |op=>match eS op (cU env) σ.get ⟨o.site,σ.next⟩with
   |some (v,none)=>cI r K (upd env o.dst v) σ
   |_=>False
def dr (next:Env->ar->Prop) (Q:Ex->Env->ar->Prop):Ex->Env->ar->Prop
 | .normal=>next
 |e=>Q e
def bc (id:Nat) (Q:Ex->Env->ar->Prop):Ex->Env->ar->Prop
 | .exit kb=>if kb=id then Q .normal else Q (.exit kb)
 |e=>Q e
def FW (W:(Ex->Env->ar->Prop)->Env->ar->Prop) (Q:Ex->Env->ar->Prop):Nat->Env->ar->Prop
 |0=>fun _ _=>False
 |n+1=>W (dr (FW W Q n) Q)
def Mn (t s:Nat) (y:O) (env:Env) (n:Nat):Prop:=(∃len,env t=.own ⟨s,n⟩ 0 len)/\∀id o l,cU env y=.own id o l->id.bW≠n
def dL (X:fN):VC->(Ex->Env->ar->Prop)->Env->ar->Prop
 | .skip,Q=>Q .normal
 | .eL draw ops,Q=>wpOps X draw ops (Q .normal)
 | .seq a b,Q=>dL X a (dr (dL X b Q) Q)
 | .cond c x y,Q=>fun env σ=>match cU env c with
  | .bool b=>if b then dL X x Q env σ else dL X y Q env σ
  |_=>False
 | .block id c,Q=>dL X c (bc id Q)
 | .loop c,Q=>fun env σ=>∃n,FW (dL X c) Q n env σ
 | .exit id,Q=>Q (.exit id)
 | .ret,Q=>Q .ret
 | .one o c,Q=>fun env σ=>if aO o.guard env then fM X false o env σ fun v σ'=>dL X c Q (upd env o.dst v) σ' else dL X c Q (upd env o.dst .undef) σ
 | .both a b,Q=>fun env σ=>dL X a Q env σ/\dL X b Q env σ
 | .loc t s y c,Q=>fun env σ=>Mn t s y env σ.next/\dL X c Q env σ
 | .Ob ops,Q=>cI ops (Q .normal)
def iD (env:Env) (g:Rows):om->Option AV
 | .tmp t=>some (env t)
 | .cell agg n t=>ld g agg n (env t)
def fA (env:Env) (g:Rows):List om->Option (List AV)
 |[]=>some []
 |r::l=>(iD env g r).bind fun v=>(fA env g l).map (v::·)
def fj:List AV->AV
 |[v]=>v
 |l=>.gO l
def cD (args:List AV):Env:=fun t=>args.getD t .undef
def kR (res:List om) (K:AV->ar->Prop):Ex->Env->ar->Prop
 | .exit _,_,_=>False
 |_,env,σ=>∃vs,fA env σ.get res=some vs/\K (fj vs) σ
inductive jL (P:Program) (w:World) (D:Nat->Prop):AV->Value->Prop
 |int (k n):jL P w D (.int k n) (.int k n)
 |bool (b):jL P w D (.bool b) (.bool b)
 |str (s):jL P w D (.str s) (.string s)
 |cC:jL P w D .cC (.slice none 0 0)
 |gY:jL P w D .gY (.pointer none)
 |jh:jL P w D .jh .nilFunc
 |Bp (a c):c<=maxLen->jL P w D (.sl []) (.slice a 0 c)
 |sl (rows b o n c sz) (vs:Nat->Nat->Value):rows.length=n->n<=c->c<=maxLen->D b->(∀cs∈rows,cs.length=sz)->(∀cs∈rows,∀a∈cs,a.cell=true)->
   (∀i j,i<n->j<sz->w.cell? ⟨b,o+(i*sz+j),none⟩=some (vs i j))->
   (∀i j cs a,rows[i]? =some cs->cs[j]? =some a->jL P w D a (vs i j))->jL P w D (.sl rows) (.slice (some ⟨b,o,none⟩) n c)
 |dn (cs b o) (vs:Nat->Value):D b->(∀a∈cs,a.cell=true)->(∀j,j<cs.length->w.cell? ⟨b,o+j,none⟩=some (vs j))->
   (∀j a,cs[j]? =some a->jL P w D a (vs j))->jL P w D (.dn cs) (.pointer (some ⟨b,o,none⟩))
 |agg (cs) (vs:Array Value) (f:Nat->Value):vs.size=cs.length->(∀a∈cs,a.cell=true)->(∀j,j<cs.length->vs[j]? =some (f j))->(∀j a,cs[j]? =some a->jL P w D a (f j))->jL P w D (.agg cs) (.agg vs)
 |fn (f cQ) (vs:Array Value) (g:Nat->Value):fP P f=true->vs.size=cQ.length->(∀j,j<cQ.length->vs[j]? =some (g j))->(∀j a,cQ[j]? =some a->jL P w D a (g j))->jL P w D (.fn f cQ) (.func (.func f) #[] vs)
 |jo:jL P w D .jo (.map none)
inductive BK where
 |map (m:MK)
 |chan (cap:Nat)
structure s9 where
 b:Nat
 sz:Nat
 C:Nat
 k:Option BK
abbrev Names:=Id->Option s9
inductive cL (P:Program) (w:World) (D:Nat->Prop) (ι:Names):AV->Value->Prop
 |eP (a v):jL P w D a v->cL P w D ι a v
 |own (id off len o cap B):ι id=some B->B.k=none->len<=cap->(cap=0∨o=off*B.sz)->(off+cap)*B.sz<=B.C->cap<=maxLen->cL P w D ι (.own id off len) (.slice (some ⟨B.b,o,none⟩) len cap)
 |ptr (id i off B):ι id=some B->B.k=none->cL P w D ι (.ptr id i off) (.pointer (some ⟨B.b,i*B.sz+off,none⟩))
 |agg (cs) (vs:Array Value) (f:Nat->Value):vs.size=cs.length->(∀a∈cs,a.cell=true)->(∀j,j<cs.length->vs[j]? =some (f j))->(∀j a,cs[j]? =some a->cL P w D ι a (f j))->cL P w D ι (.agg cs) (.agg vs)
 |gO (cs) (vs:Array Value) (f:Nat->Value):vs.size=cs.length->(∀j,j<cs.length->vs[j]? =some (f j))->(∀j a,cs[j]? =some a->cL P w D ι a (f j))->cL P w D ι (.gO cs) (.tuple vs)
 |fn (f cQ) (vs:Array Value) (g:Nat->Value):fP P f=true->vs.size=cQ.length->(∀j,j<cQ.length->vs[j]? =some (g j))->(∀j a,cQ[j]? =some a->cL P w D ι a (g j))->cL P w D ι (.fn f cQ) (.func (.func f) #[] vs)
 |r7 (id c B):ι id=some B->B.k=some (.chan c)->cL P w D ι (.r7 id) (.chan (some B.b))
 |map (id m B):ι id=some B->B.k=some (.map m)->cL P w D ι (.map id m) (.map (some B.b))
 |uG (f cQ) (vs:Array Value) (g:Nat->Value):fP P f=true->vs.size=cQ.length->(∀j,j<cQ.length->vs[j]? =some (g j))->(∀j a,cQ[j]? =some a->cL P w D ι a (g j))->cL P w D ι (.uG f cQ) (.func (.func f) vs #[])
variable {P:Program} {w w':World} {D D':Nat->Prop} {ι ι':Names}
theorem jL.frame (hD:∀b,D b->w'.heap[b]? =w.heap[b]?) (hs:∀b,D b->D' b) {a:AV} {v:Value} (h:jL P w D a v):jL P w' D' a v:=by
 induction h with
 |int k n=>exact .int k n
 |bool b=>exact .bool b
 |str s=>exact .str s
 |cC=>exact .cC
 |gY=>exact .gY
 |jh=>exact .jh
 |jo=>exact .jo
 |Bp a c h=>exact .Bp a c h
 |sl rows b o n c sz vs h1 h2 h3 h4 h5 h5' h6 _ ih=>exact .sl rows b o n c sz vs h1 h2 h3 (hs b h4) h5 h5' (fun i j hi hj=>(World.cell?_of_block (hD b h4)).trans (h6 i j hi hj)) ih
 |dn cs b o vs h1 Ot h2 _ ih=>exact .dn cs b o vs (hs b h1) Ot (fun j hj=>(World.cell?_of_block (hD b h1)).trans (h2 j hj)) ih
 |agg cs vs f h1 h2 h3 _ ih=>exact .agg cs vs f h1 h2 h3 ih
 |fn f cQ vs g h1 h2 h3 _ ih=>exact .fn f cQ vs g h1 h2 h3 ih
theorem cL.frame (hD:∀b,D b->w'.heap[b]? =w.heap[b]?) (hs:∀b,D b->D' b) (hι:∀id B,ι id=some B->ι' id=some B) {a:AV} {v:Value} (h:cL P w D ι a v):cL P w' D' ι' a v:=by
 induction h with
 |eP a v h=>exact .eP a v (h.frame hD hs)
 |map id m B h1 h2=>exact .map id m B (hι _ _ h1) h2
 |r7 id c B h1 h2=>exact .r7 id c B (hι _ _ h1) h2
 |own id off len o cap B h1 h2 h3 h4 h5 h6=>exact .own id off len o cap B (hι _ _ h1) h2 h3 h4 h5 h6
 |ptr id i off B h1 h2=>exact .ptr id i off B (hι _ _ h1) h2
 |agg cs vs f h1 h2 h3 _ ih=>exact .agg cs vs f h1 h2 h3 ih
 |gO cs vs f h1 h2 _ ih=>exact .gO cs vs f h1 h2 ih
 |fn f cQ vs g h1 h2 h3 _ ih=>exact .fn f cQ vs g h1 h2 h3 ih
 |uG f cQ vs g h1 h2 h3 _ ih=>exact .uG f cQ vs g h1 h2 h3 ih
theorem cL.undef:cL P w D ι .undef Go.undef:=.gO [] #[] (fun _=>Go.undef) rfl (fun j hj=>by simp at hj) (fun j a h=>by simp at h)
theorem xw (c:K):cL P w D ι c.av c.val:=by
 cases c with
 |int k n=>exact .eP _ _ (.int k n)
 |bool b=>exact .eP _ _ (.bool b)
 |str l=>exact .eP _ _ (.str _)
 |cC=>exact .eP _ _ .cC
 |gY=>exact .eP _ _ .gY
 |jh=>exact .eP _ _ .jh
 |jo=>exact .eP _ _ .jo
theorem K.nu (c:K):c.av.cell=true:=by cases c<;>rfl
theorem Ao {v:Value} {c:K} (h:G2 v=some c):v=c.val:=by
 unfold G2 at h
 split at h<;>simp at h<;>subst h<;>rfl
theorem cL.BM {a:AV} {v:Value} (h:cL P w D ι a v) (hc:a.cell=true):v.cells= #[v]/\(∀vs,v≠.agg vs)/\(∀vs,v≠.tuple vs):=by
 cases h with
 |eP a v h=>cases h<;>simp_all [AV.cell,Value.cells]
 |own=>simp[Value.cells]
 |map=>simp[Value.cells]
 |r7=>simp[Value.cells]
 |ptr=>simp[Value.cells]
 |agg=>simp[AV.cell]at hc
 |gO=>simp[AV.cell]at hc
 |fn=>simp[Value.cells]
 |uG=>simp[Value.cells]
theorem cL.cells {a:AV} {v:Value} (h:cL P w D ι a v) (ha:a.cells.all AV.cell=true):v.cells.size=a.cells.length/\∃f:Nat->Value,(∀j,j<a.cells.length->v.cells[j]? =some (f j))/\∀j x,a.cells[j]? =some x->cL P w D ι x (f j):=by
 have one:∀(a:AV) (v:Value),a.cell=true->a.cells=[a]->cL P w D ι a v->v.cells.size=a.cells.length/\∃f:Nat->Value,(∀j,j<a.cells.length->v.cells[j]? =some (f j))/\∀j x,a.cells[j]? =some x->cL P w D ι x (f j):=by
  intro a v hc dx h
  obtain⟨h1,_,_⟩:=h.BM hc
  rw[h1,dx]
  refine⟨rfl,fun _=>v,fun j hj=>?_,fun j x hx=>?_⟩
  ·have:j=0:=by simp at hj;omega
   subst this;rfl
  ·cases j with
   |zero=>simp at hx;subst hx;exact h
   |succ j=>simp at hx
 cases h with
 |eP a v h=>
  cases h with
  |agg cs vs f h1 h2 h3 h4=>exact⟨h1,f,h3,fun j x hx=>.eP _ _ (h4 j x hx)⟩
  |_=>exact one _ _ rfl rfl (.eP _ _ (by constructor<;>assumption))
 |own id off len o cap B h1 h2 h3 h4 h5 h6=>exact one _ _ rfl rfl (.own id off len o cap B h1 h2 h3 h4 h5 h6)
 |ptr id i off B h1 h2=>exact one _ _ rfl rfl (.ptr id i off B h1 h2)
 |map id m B h1 h2=>exact one _ _ rfl rfl (.map id m B h1 h2)
 |r7 id c B h1 h2=>exact one _ _ rfl rfl (.r7 id c B h1 h2)
 |agg cs vs f h1 h2 h3 h4=>exact⟨h1,f,h3,h4⟩
 |gO cs vs f h1 h2 h3=>simp[AV.cells,AV.cell]at ha
 |fn f cQ vs g h1 h2 h3 h4=>exact one _ _ rfl rfl (.fn f cQ vs g h1 h2 h3 h4)
 |uG f cQ vs g h1 h2 h3 h4=>exact one _ _ rfl rfl (.uG f cQ vs g h1 h2 h3 h4)
structure lR (P:Program) (w:World) (D:Nat->Prop) (ι:Names) (B:s9) (r:Row):Prop where
 sz:B.sz=r.sz
 ye:∃cells T,w.heap[B.b]? =some (.cells cells T (0,0))/\cells.size=B.C
 fits:r.rows.length*r.sz<=B.C
 len:∀cs∈r.rows,cs.length=r.sz
 flat:∀cs∈r.rows,∀a∈cs,a.cell=true
 at_:∀i j cs a,r.rows[i]? =some cs->cs[j]? =some a->∃v,w.cell? ⟨B.b,i*r.sz+j,none⟩=some v/\cL P w D ι a v
def Lq (es:Array MapEntry) (clock:Nat):Prop:=(∀x∈es.toList,x.born<clock)/\(es.toList.map (·.born)).Nodup
def M9 (P:Program) (w:World) (D:Nat->Prop) (ι:Names) (B:s9) (m:MK) (r:Row):Prop:=
 ∃(es:Array MapEntry) (clock:Nat),w.heap[B.b]? =some (.map es clock)/\es.size=r.rows.length/\((∀cs∈r.rows,cs.length=m.ks+1)/\Lq es clock)/\
  ∀(i:Nat) (cs:List AV),r.rows[i]? =some cs->∃(e:MapEntry) (kv vv:AV),es[i]? =some e/\part m.ka m.ks cs=some kv/\cs[m.ks]? =some vv/\cL P w D ι kv e.key/\cL P w D ι vv e.val
def Ic (P:Program) (w:World) (D:Nat->Prop) (ι:Names) (B:s9) (c:Nat) (r:Row):Prop:=
 ∃(buf:Array Value) (s q:Nat),w.heap[B.b]? =some (.chan c buf false s q false)/\buf.size=r.rows.length/\
  ∀(i:Nat) (cs:List AV),r.rows[i]? =some cs->∃(a:AV) (u:Value),cs=[a]/\buf[i]? =some u/\cL P w D ι a u
structure gR (P:Program) (w:World) (D:Nat->Prop) (ι:Names) (B:s9) (r:Row):Prop where
 sz:B.sz=r.sz
 flat:∀cs∈r.rows,∀a∈cs,a.cell=true
 row:B.k=none->lR P w D ι B r
 map:∀m,B.k=some (.map m)->r.sz=m.qd/\M9 P w D ι B m r
 chan:∀c,B.k=some (.chan c)->r.sz=qT+c/\Ic P w D ι B c r
theorem lR.obj {B:s9} {r:Row} (R:lR P w D ι B r) (h:B.k=none):gR P w D ι B r:=⟨R.sz,R.flat,fun _=>R,fun m hm=>(by rw[h]at hm;cases hm),fun m hm=>by rw[h]at hm;cases hm⟩
theorem gR.flag {B:s9} {r:Row} (R:gR P w D ι B r) (b:Bool):gR P w D ι B {r with w:=b}:=⟨R.sz,R.flat,fun h=>⟨R.sz,(R.row h).ye,(R.row h).fits,(R.row h).len,R.flat,(R.row h).at_⟩,R.map,R.chan⟩
theorem gR.cells {B:s9} {r:Row} (R:gR P w D ι B r) (h:r.sz<sF):B.k=none:=by
 cases hk:B.k with
 |none=>rfl
 |some m=>
  cases m with
  |map m=>
   have h1:=(R.map m hk).1
   unfold MK.qd at h1
   omega
  |chan c=>
   have h1:=(R.chan c hk).1
   unfold qT at h1
   unfold sF at h
   omega
theorem gR.Mu {B:s9} {r:Row} (R:gR P w D ι B r) {c:Array Value} {T:TypeId} {z:Nat×Nat} (h:w.heap[B.b]? =some (.cells c T z)):B.k=none:=by
 cases hk:B.k with
 |none=>rfl
 |some m=>
  cases m with
  |map m=>obtain⟨_,es,c,h3,_⟩:=R.map m hk;rw[h]at h3;cases h3
  |chan c=>obtain⟨_,buf,s,q,h3,_⟩:=R.chan c hk;rw[h]at h3;cases h3
theorem gR.lt {B:s9} {r:Row} (R:gR P w D ι B r):B.b<w.heap.size:=by
 cases h:B.k with
 |none=>
  obtain⟨c,T,h3,_⟩:=(R.row h).ye
  exact(Array.getElem?_eq_some_iff.1 h3).1
 |some m=>
  cases m with
  |map m=>obtain⟨_,es,c,h3,_⟩:=R.map m h;exact(Array.getElem?_eq_some_iff.1 h3).1
  |chan c=>obtain⟨_,buf,s,q,h3,_⟩:=R.chan c h;exact(Array.getElem?_eq_some_iff.1 h3).1
structure gD (P:Program) (hs:Nat) (D:Nat->Prop) (ι:Names) (g:Rows) (w:World):Prop where
 lo:hs<=w.heap.size
 dead:∀b,D b->b<w.heap.size
 row:∀id r,g id=some r->∃B,ι id=some B/\gR P w D ι B r/\(r.w=true->hs<=B.b)/\(r.w=true->¬D B.b)
 inj:∀id kb r r' B B',g id=some r->g kb=some r'->r.w=true->ι id=some B->ι kb=some B'->B.b=B'.b->id=kb
def Used (ι:Names) (n:Nat) (U:Nat->Prop):Prop:=∀id,ι id≠none->id.bW<n∨(id.bW=n/\U id.site)
structure Step (hs:Nat) (D:Nat->Prop) (ι:Names) (w:World) (D':Nat->Prop) (ι':Names) (w':World):Prop where
 below:Below hs w w'
 rq:∀b,D b->w'.heap[b]? =w.heap[b]?
 dead:∀b,D b->D' b
 names:∀id B,ι id=some B->ι' id=some B
 new:∀b,D' b->D b∨hs<=b
theorem Step.refl (hs:Nat) (D:Nat->Prop) (ι:Names) (w:World):Step hs D ι w D ι w:=⟨Below.refl _ _,fun _ _=>rfl,fun _ h=>h,fun _ _ h=>h,fun _ h=>.inl h⟩
theorem Step.trans {hs:Nat} {D D' D'':Nat->Prop} {ι ι' SI:Names} {w w' Lk:World} (h:Step hs D ι w D' ι' w') (k:Step hs D' ι' w' D'' SI Lk):Step hs D ι w D'' SI Lk:=
 ⟨h.below.trans k.below,fun b hb=>(k.rq b (h.dead b hb)).trans (h.rq b hb),fun b hb=>k.dead b (h.dead b hb),fun id B hB=>k.names id B (h.names id B hB),fun b hb=>by
  rcases k.new b hb with hb|hb
  ·exact h.new b hb
  ·exact .inr hb⟩
theorem Step.rep {hs:Nat} {D D':Nat->Prop} {ι ι':Names} {w w':World} (h:Step hs D ι w D' ι' w') {a:AV} {v:Value} (hr:cL P w D ι a v):cL P w' D' ι' a v:=hr.frame h.rq h.dead h.names
theorem du {k n} {v:Value} (h:cL P w D ι (.int k n) v):v=.int k n:=by
 cases h with
 |eP _ _ h=>cases h;rfl
theorem fc {b} {v:Value} (h:cL P w D ι (.bool b) v):v=.bool b:=by
 cases h with
 |eP _ _ h=>cases h;rfl
theorem fH {s} {v:Value} (h:cL P w D ι (.str s) v):v=.string s:=by
 cases h with
 |eP _ _ h=>cases h;rfl
theorem kn {v:Value} (h:cL P w D ι .cC v):v=.slice none 0 0:=by
 cases h with
 |eP _ _ h=>cases h;rfl
theorem xx {v:Value} (h:cL P w D ι .jh v):v=.nilFunc:=by
 cases h with
 |eP _ _ h=>cases h;rfl
theorem ja {cs} {v:Value} (h:cL P w D ι (.agg cs) v):∃(vs:Array Value) (f:Nat->Value),v=.agg vs/\vs.size=cs.length/\(∀a∈cs,a.cell=true)/\(∀j,j<cs.length->vs[j]? =some (f j))/\∀j a,cs[j]? =some a->cL P w D ι a (f j):=by
 cases h with
 |eP _ _ h=>
  cases h with
  |agg cs vs f h1 h2 h3 h4=>exact⟨vs,f,rfl,h1,h2,h3,fun j a h=>.eP _ _ (h4 j a h)⟩
 |agg cs vs f h1 h2 h3 h4=>exact⟨vs,f,rfl,h1,h2,h3,h4⟩
theorem vW {cs} {v:Value} (h:cL P w D ι (.gO cs) v):∃(vs:Array Value) (f:Nat->Value),v=.tuple vs/\vs.size=cs.length/\(∀j,j<cs.length->vs[j]? =some (f j))/\∀j a,cs[j]? =some a->cL P w D ι a (f j):=by
 cases h with
 |eP _ _ h=>cases h
 |gO cs vs f h1 h2 h3=>exact⟨vs,f,rfl,h1,h2,h3⟩
theorem AJ {f cQ} {v:Value} (h:cL P w D ι (.fn f cQ) v):∃(vs:Array Value) (g:Nat->Value),v=.func (.func f) #[] vs/\fP P f=true/\vs.size=cQ.length/\(∀j,j<cQ.length->vs[j]? =some (g j))/\∀j a,cQ[j]? =some a->cL P w D ι a (g j):=by
 cases h with
 |eP _ _ h=>
  cases h with
  |fn f cQ vs g h1 h2 h3 h4=>exact⟨vs,g,rfl,h1,h2,h3,fun j a h=>.eP _ _ (h4 j a h)⟩
 |fn f cQ vs g h1 h2 h3 h4=>exact⟨vs,g,rfl,h1,h2,h3,h4⟩
theorem Kc {v:Value} (h:cL P w D ι .gY v):v=.pointer none:=by
 cases h with
 |eP _ _ h=>cases h;rfl
theorem CT {v:Value} (h:cL P w D ι .jo v):v=.map none:=by
 cases h with
 |eP _ _ h=>cases h;rfl
theorem MJ {f cQ} {v:Value} (h:cL P w D ι (.uG f cQ) v):∃(vs:Array Value) (g:Nat->Value),v=.func (.func f) vs #[]/\fP P f=true/\vs.size=cQ.length/\(∀j,j<cQ.length->vs[j]? =some (g j))/\∀j a,cQ[j]? =some a->cL P w D ι a (g j):=by
 cases h with
 |eP _ _ h=>cases h
 |uG f cQ vs g h1 h2 h3 h4=>exact⟨vs,g,rfl,h1,h2,h3,h4⟩
theorem jb {id off len} {v:Value} (h:cL P w D ι (.own id off len) v):∃o cap B,v=.slice (some ⟨B.b,o,none⟩) len cap/\ι id=some B/\len<=cap/\(cap=0∨o=off*B.sz)/\(off+cap)*B.sz<=B.C/\cap<=maxLen/\B.k=none:=by
 cases h with
 |eP _ _ h=>cases h
 |own id off len o cap B h1 h2 h3 h4 h5 h6=>exact⟨o,cap,B,rfl,h1,h3,h4,h5,h6,h2⟩
theorem iL {id i off} {v:Value} (h:cL P w D ι (.ptr id i off) v):∃B,v=.pointer (some ⟨B.b,i*B.sz+off,none⟩)/\ι id=some B/\B.k=none:=by
 cases h with
 |eP _ _ h=>cases h
 |ptr id i off B h1 h2=>exact⟨B,rfl,h1,h2⟩
theorem MH {id} {v:Value} (h:cL P w D ι (.r7 id) v):∃B c,v=.chan (some B.b)/\ι id=some B/\B.k=some (.chan c):=by
 cases h with
 |eP _ _ h=>cases h
 |r7 id c B h1 h2=>exact⟨B,c,rfl,h1,h2⟩
theorem F3 {id m} {v:Value} (h:cL P w D ι (.map id m) v):∃B,v=.map (some B.b)/\ι id=some B/\B.k=some (.map m):=by
 cases h with
 |eP _ _ h=>cases h
 |map id m B h1 h2=>exact⟨B,rfl,h1,h2⟩
theorem lq {cs} {v:Value} (h:cL P w D ι (.dn cs) v):∃b o,∃vs:Nat->Value,v=.pointer (some ⟨b,o,none⟩)/\D b/\(∀a∈cs,a.cell=true)/\(∀j,j<cs.length->w.cell? ⟨b,o+j,none⟩=some (vs j))/\∀j a,cs[j]? =some a->jL P w D a (vs j):=by
 cases h with
 |eP _ _ h=>
  cases h with
  |dn cs b o vs h1 h2 h3 h4=>exact⟨b,o,vs,rfl,h1,h2,h3,h4⟩
theorem xz {rows} {v:Value} (h:cL P w D ι (.sl rows) v):∃A c,v=.slice A rows.length c/\rows.length<=c/\c<=maxLen/\
  (rows=[]∨∃b o sz,∃vs:Nat->Nat->Value,A=some ⟨b,o,none⟩/\D b/\(∀cs∈rows,cs.length=sz)/\(∀cs∈rows,∀a∈cs,a.cell=true)/\
   (∀i j,i<rows.length->j<sz->w.cell? ⟨b,o+(i*sz+j),none⟩=some (vs i j))/\∀i j cs a,rows[i]? =some cs->cs[j]? =some a->jL P w D a (vs i j)):=by
 cases h with
 |eP _ _ h=>
  cases h with
  |Bp a c h=>exact⟨a,c,rfl,Nat.zero_le _,h,.inl rfl⟩
  |sl rows b o n c sz vs h1 h2 h3 h4 h5 h5' h6 h7=>subst h1;exact⟨_,c,rfl,h2,h3,.inr ⟨b,o,sz,vs,rfl,h4,h5,h5',h6,h7⟩⟩
inductive eJ:AV->Prop
 |int (k n):eJ (.int k n)
 |bool (b):eJ (.bool b)
 |str (s):eJ (.str s)
 |cC:eJ .cC
 |gY:eJ .gY
 |jh:eJ .jh
 |sl (rows):rows.length<=maxLen->(∀cs∈rows,∀a∈cs,eJ a)->eJ (.sl rows)
 |own (id off len):eJ (.own id off len)
 |ptr (id i off):eJ (.ptr id i off)
 |dn (cs):(∀a∈cs,eJ a)->eJ (.dn cs)
 |agg (cs):(∀a∈cs,eJ a)->eJ (.agg cs)
 |gO (cs):(∀a∈cs,eJ a)->eJ (.gO cs)
 |fn (f cQ):(∀a∈cQ,eJ a)->eJ (.fn f cQ)
 |map (id m):eJ (.map id m)
 |r7 (id):eJ (.r7 id)
 |jo:eJ .jo
 |uG (f cQ):(∀a∈cQ,eJ a)->eJ (.uG f cQ)
theorem eJ.len {rows:List (List AV)} (h:eJ (.sl rows)):rows.length<=9223372036854775807:=by
 cases h with
 |sl _ h _=>unfold maxLen at h;omega
theorem eJ.cell {rows:List (List AV)} (h:eJ (.sl rows)) {cs:List AV} (hc:cs∈rows) {a:AV} (ha:a∈cs):eJ a:=by
 cases h with
 |sl _ _ h=>exact h cs hc a ha
theorem eJ.N1 {cs:List AV} (h:eJ (.agg cs)) {a:AV} (ha:a∈cs):eJ a:=by
 cases h with
 |agg _ h=>exact h a ha
theorem eJ.Cq {cs:List AV} (h:eJ (.dn cs)) {a:AV} (ha:a∈cs):eJ a:=by
 cases h with
 |dn _ h=>exact h a ha
theorem pD {l:List AV} {p:AV->Prop} (h:∀(j:Nat) (a:AV),l[j]? =some a->p a):∀a∈l,p a:=fun a ha=>by
 obtain⟨j,hj,rfl⟩:=List.getElem_of_mem ha
 exact h j _ (List.getElem?_eq_getElem hj)
theorem jL.JM {a:AV} {v:Value} (h:jL P w D a v):eJ a:=by
 induction h with
 |int k n=>exact .int k n
 |bool b=>exact .bool b
 |str s=>exact .str s
 |cC=>exact .cC
 |gY=>exact .gY
 |jh=>exact .jh
 |jo=>exact .jo
 |Bp a c h=>exact .sl [] (Nat.zero_le _) (fun cs h=>by cases h)
 |sl rows b o n c sz vs h1 h2 h3 h4 h5 h5' h6 _ ih=>
  exact .sl rows (by omega) fun cs dx a ha=>by
   obtain⟨i,hi,rfl⟩:=List.getElem_of_mem dx
   obtain⟨j,hj,rfl⟩:=List.getElem_of_mem ha
   exact ih i j _ _ (List.getElem?_eq_getElem hi) (List.getElem?_eq_getElem hj)
 |dn cs b o vs h1 Ot h2 _ ih=>exact .dn cs (pD ih)
 |agg cs vs f h1 h2 h3 _ ih=>exact .agg cs (pD ih)
 |fn f cQ vs g h1 h2 h3 _ ih=>exact .fn f cQ (pD ih)
theorem cL.JM {a:AV} {v:Value} (h:cL P w D ι a v):eJ a:=by
 induction h with
 |eP a v h=>exact h.JM
 |own id off len o cap B=>exact .own _ _ _
 |ptr id i off B=>exact .ptr _ _ _
 |map id m B=>exact .map _ _
 |r7 id c B=>exact .r7 _
 |agg cs vs f h1 h2 h3 _ ih=>exact .agg cs (pD ih)
 |gO cs vs f h1 h2 _ ih=>exact .gO cs (pD ih)
 |fn f cQ vs g h1 h2 h3 _ ih=>exact .fn f cQ (pD ih)
 |uG f cQ vs g h1 h2 h3 _ ih=>exact .uG f cQ (pD ih)
end Go.Proofs.YtgoljkjaameagaaGreat.V

namespace Go.Proofs.YtgoljkjaameagaaGreat.V
open Go.RowKit
variable {P:Program} {w w':World} {D D':Nat->Prop} {ι ι':Names}
def cu (P:Program) (w:World) (D:Nat->Prop) (ι:Names) (env:Env) (a:Act):Prop:=∀t,cL P w D ι (env t) (a.tmps.getD t undef)
theorem sD {vs:List Value} {cs:List K} (h:vs.mapM G2=some cs):cs.length=vs.length/\∀(j:Nat) (c:K),cs[j]? =some c->vs[j]? =some c.val:=by
 induction vs generalizing cs with
 |nil=>simp at h;subst h;simp
 |cons v r ih=>
  simp only[List.mapM_cons,Option.bind_eq_bind,Option.bind_eq_some_iff]at h
  obtain⟨c,hc,qz,dx,h⟩:=h
  simp at h;subst h
  obtain⟨h1,h2⟩:=ih dx
  refine⟨by simp[h1],fun j d hd=>?_⟩
  cases j with
  |zero=>simp at hd ⊢;subst hd;exact Ao hc
  |succ j=>simp at hd ⊢;exact h2 j d hd
theorem VE {vs:List Value} {cs:List K} (h:vs.mapM G2=some cs):cL P w D ι (.agg (cs.map K.av)) (.agg vs.toArray):=by
 obtain⟨h1,h2⟩:=sD h
 refine .agg _ _ (fun j=>vs.getD j undef) (by simp[h1]) (fun a ha=>?_) (fun j hj=>?_) (fun j a ha=>?_)
 ·obtain⟨c,_,rfl⟩:=List.mem_map.1 ha;exact c.nu
 ·simp at hj;simp[List.getElem?_eq_getElem (show j<vs.length by omega)]
 ·simp only[List.getElem?_map,Option.map_eq_some_iff]at ha
  obtain⟨c,hc,rfl⟩:=ha
  rw[List.getD_eq_getElem?_getD,h2 j c hc];exact xw c
theorem dp {env:Env} {a:Act} {x:Operand} {y:O} (E:cu P w D ι env a) (h:cO P x=some y):cL P w D ι (cU env y) (a.eval x):=by
 unfold cO at h
 split at h
 ·simp at h;subst h;exact E _
 ·simp only[Option.map_eq_some_iff]at h
  obtain⟨cs,dx,rfl⟩:=h
  have:=VE (P:=P) (w:=w) (D:=D) (ι:=ι) dx
  simpa[Act.eval,cU]using this
 ·simp only[Option.map_eq_some_iff]at h
  obtain⟨c,hc,rfl⟩:=h
  simp only[Act.eval,cU]
  rw[Ao hc];exact xw c
 ·simp at h
 ·split at h
  ·rename_i hc
   simp at h;subst h
   simp only[Act.eval,cU]
   exact .fn _ _ _ (fun _=>undef) hc rfl (fun j hj=>by simp at hj) (fun j a h=>by simp at h)
  ·simp at h
def oX (P:Program) (a:Act) (o:Oper) (w:World) (D:Nat->Prop) (ι:Names) (v:AV):Prop:=∃u,(execOp a.eval o).run P w=.ok (.value u) w/\cL P w D ι v u
section
variable {g:Rows} {hs:Nat} {env:Env} {a:Act} {o:Oper} {id:Id} {v:AV}
theorem NP {x:Operand} {y:O} (E:cu P w D ι env a) (ho:o.op=.move x∨o.op=.assign x) (hx:cO P x=some y):oX P a o w D ι (cU env y):=by
 refine⟨a.eval x,?_,dp E hx⟩
 rcases ho with h|h<;>simp[execOp,h,go_sem]
theorem P9 {c x y:Operand} {c' x' y':O} (E:cu P w D ι env a) (ho:o.op=.pick c x y) (hc:cO P c=some c') (hx:cO P x=some x') (hy:cO P y=some y') (hv:dj (cU env c') (cU env x') (cU env y')=some v):oX P a o w D ι v:=by
 unfold dj at hv
 split at hv
 ·rename_i b hb
  simp at hv;subst hv
  have h1:=fc (hb▸dp E hc)
  refine⟨if b then a.eval x else a.eval y,by simp only[execOp,ho,h1,asBool];rfl,?_⟩
  cases b
  ·exact dp E hy
  ·exact dp E hx
 ·simp at hv
theorem Sx {op:BinOp} {x y:Operand} {x' y':O} {t yt:TypeId} (E:cu P w D ι env a) (ho:o.op=.binOp op t x y yt) (he:op≠.eql) (hn:op≠.neq) (hx:cO P x=some x') (hy:cO P y=some y') (hv:ei op (cU env x') (cU env y')=some v):oX P a o w D ι v:=by
 unfold ei at hv
 split at hv
 ·rename_i k n k' m hb tA
  split at hv
  ·rename_i hk
   subst hk
   have h1:=du (hb▸dp E hx)
   have h2:=du (tA▸dp E hy)
   have key:∀u,(binOp op t (.int k n) (.int k m)).run P w=.ok u w->(execOp a.eval o).run P w=.ok (.value u) w:=fun u hu=>by
    have e0:eqGuard op t x y (.int k n) (.int k m)=pure ():=by unfold eqGuard;cases op<;>rfl
    simp only[execOp,ho,h1,h2,e0]
    simp[go_sem,hu]
   cases op<;>simp only[dG]at hv<;>(try(simp at hv;done))<;>(try split at hv)<;>(try(simp at hv;done))<;>simp only[Option.some.injEq]at hv<;>subst hv<;>
    (refine⟨_,key _ (by simp only[binOp,ne_eq,not_true_eq_false,if_false,Op.intArith,Op.intDiv,Op.intBits,Op.intCmp, *];rfl),?_⟩)<;>
    first
     |exact .eP _ _ (.int _ _)
     |exact .eP _ _ (.bool _)
  ·simp at hv
 ·simp at hv
theorem PT {op:BinOp} {x y:Operand} {x' y':O} {t yt:TypeId} (E:cu P w D ι env a) (ho:o.op=.binOp op t x y yt) (he:op≠.eql) (hn:op≠.neq) (hx:cO P x=some x') (hy:cO P y=some y') (hv:dm op (cU env x') (cU env y')=some v):oX P a o w D ι v:=by
 unfold dm at hv
 split at hv
 ·rename_i n m hb tA
  have h1:=fH (hb▸dp E hx)
  have h2:=fH (tA▸dp E hy)
  cases op<;>simp only[eB]at hv<;>(try(simp at hv;done))
  case add=>
   split at hv
   ·rename_i hl
    simp only[Option.some.injEq]at hv;subst hv
    exact⟨_,by simp only[execOp,ho,h1,h2];simp[eqGuard,binOp,go_sem];exact hl,.eP _ _ (.str _)⟩
   ·simp at hv
  all_goals
   simp only[Option.some.injEq]at hv;subst hv
   exact⟨_,by simp only[execOp,ho,h1,h2];simp[eqGuard,binOp,Op.stringOp,go_sem],.eP _ _ (.bool _)⟩
 ·simp at hv
theorem F7 (n m:ByteArray):(n.toList==m.toList)=decide (n=m):=by
 rw[ByteArray.toList_eq,ByteArray.toList_eq]
 by_cases h:n=m
 ·subst h;simp
 ·have:n.data.toList≠m.data.toList:=fun he=>h (ByteArray.ext (Array.ext' he))
  rw[decide_eq_false h];exact beq_eq_false_iff_ne.2 this
theorem qf {t:TypeId} (h:fx P t=some .tB):P.underlying t=some .bool:=by unfold fx at h;split at h<;>simp_all
theorem qg {t:TypeId} (h:fx P t=some .tI):∃k,P.underlying t=some (.int k):=by unfold fx at h;split at h<;>simp_all
theorem qh {t:TypeId} (h:fx P t=some .tS):P.underlying t=some .string:=by unfold fx at h;split at h<;>simp_all
theorem sN {d:Nat} {t:TypeId} {s:TS} {x y:AV} {u u':Value} {b:Bool} (hx:cL P w D ι x u) (hy:cL P w D ι y u') (hv:fY s x y=some b) (ht:fx P t=some s):(Op.equalIn (d+1) t u u').run P w=.ok b w:=by
 unfold fY at hv
 split at hv
 ·rename_i k n k' m
  split at hv
  ·rename_i hk
   subst hk
   simp at hv;subst hv
   obtain⟨q,hq⟩:=qg ht
   rw[du hx,du hy,run_equalIn_int _ _ _ _ _ _ _ hq];rfl
  ·simp at hv
 ·simp at hv;subst hv
  rw[fc hx,fc hy,run_equalIn_bool' _ _ _ _ _ (qf ht)]
 ·simp at hv;subst hv
  rw[fH hx,fH hy,run_equalIn_string _ _ _ _ _ (qh ht),F7]
 ·simp at hv
def fu (P:Program) (w:World) (D:Nat->Prop) (ι:Names) (xs:List AV) (vs:Array Value):Prop:=vs.size=xs.length/\∀(j:Nat) (a:AV),xs[j]? =some a->∃u,vs[j]? =some u/\cL P w D ι a u
theorem fu.part {xs:List AV} {vs:Array Value} (h:fu P w D ι xs vs) (off n:Nat) (hn:off+n<=xs.length):fu P w D ι ((xs.drop off).take n) (vs.extract off (off+n)):=by
 refine⟨by simp[h.1];omega,fun j a ha=>?_⟩
 rw[List.getElem?_take]at ha
 split at ha
 ·rename_i hj
  rw[List.getElem?_drop]at ha
  obtain⟨u,h1,h2⟩:=h.2 _ _ ha
  refine⟨u,?_,h2⟩
  rw[Array.getElem?_extract]
  rw[if_pos (by rw[h.1];omega),h1]
 ·simp at ha
theorem sb:∀{ts:List TS} {xs ys:List AV} {b:Bool},e6 ts xs ys=some b->xs.length=ts.length/\ys.length=ts.length
 |[],[],[],_,_=>⟨rfl,rfl⟩
 |t::ts,x::xs,y::ys,b,h=>by
  unfold e6 at h
  split at h
  ·rename_i c d h1 h2
   have:=sb h2
   simp[this.1,this.2]
  ·simp at h
 |[],[],_::_,_,h=>by simp[e6]at h
 |[],_::_,_,_,h=>by simp[e6]at h
 |_::_,[],_,_,h=>by simp[e6]at h
 |_::_,_::_,[],_,h=>by simp[e6]at h
theorem Fz:∀{ts us:List TS} {xs ys:List AV} {b:Bool},e6 (ts++us) xs ys=some b->∃c d,e6 ts (xs.take ts.length) (ys.take ts.length)=some c/\e6 us (xs.drop ts.length) (ys.drop ts.length)=some d/\b=(c&&d)
 |[],us,xs,ys,b,h=>⟨true,b,by simp[e6],by simpa using h,by simp⟩
 |t::ts,us,x::xs,y::ys,b,h=>by
  simp only[List.cons_append]at h
  unfold e6 at h
  split at h
  ·rename_i c d h1 h2
   obtain⟨c',d',h3,h4,rfl⟩:=Fz h2
   simp at h;subst h
   exact⟨c&&c',d',by simp[e6,h1,h3],by simpa using h4,by simp[Bool.and_assoc]⟩
  ·simp at h
 |t::ts,us,[],ys,b,h=>by simp[e6]at h
 |t::ts,us,x::xs,[],b,h=>by simp[e6]at h
theorem mV {t:TypeId} {vs:Array Value} {off:Nat} {u:Value} (ha:ox P t=some false) (hu:vs[off]? =some u):(Go.part t vs off).run P w=.ok u w:=by
 unfold ox at ha
 have hi:(isAgg t).run P w=.ok false w:=by
  split at ha<;>simp at ha
  rename_i d h1 h2 hd
  simp only[isAgg,Sem.run_bind,run_underlying hd,Result.andThen_ok]
  cases d<;>simp_all
 simp[Go.part,hi,hu]
theorem tV {t:TypeId} {b:Bool} (ha:ox P t=some b):(isAgg t).run P w=.ok b w:=by
 unfold ox at ha
 split at ha<;>simp at ha<;>subst ha<;>rename_i hd<;>simp only[isAgg,Sem.run_bind,run_underlying hd,Result.andThen_ok]<;>(try simp)
theorem run_sizeOf {t:TypeId} {n:Nat} (h:ec P t=some n):(sizeOf t).run P w=.ok n w:=by
 unfold ec at h
 simp only[Option.map_eq_some_iff]at h
 obtain⟨i,hi,rfl⟩:=h
 simp[sizeOf,typeInfo,hi]
theorem qe {t:TypeId} {vs:Array Value} {off n:Nat} (ha:ox P t=some true) (hn:ec P t=some n):(Go.part t vs off).run P w=.ok (.agg (vs.extract off (off+n))) w:=by
 simp[Go.part,tV ha,run_sizeOf hn]
theorem IX (d off:Nat):eM P (d+1) off []=some []:=rfl
theorem yZ (d off:Nat) (f:Field) (r:List Field):eM P (d+1) off (f::r)=(if f.offset=off/\f.name≠ "_" then
   match fx P f.type with
   |some t=>if ox P f.type=some false then(eM P (d+1) (off+1) r).map (t::·)else none
   |none=>match P.underlying f.type with
    |some (.struct fs)=>if !P.stoodInHeld f.type then match eM P d 0 fs.toList with
     |some ts=>if ec P f.type=some ts.length/\ts≠[]then(eM P (d+1) (off+ts.length) r).map (ts++·)else none
     |none=>none else none
    |_=>none
  else none):=rfl
theorem sM:∀(d:Nat) (fs:List Field) (off:Nat) (ts:List TS),eM P d off fs=some ts->∀(N:Nat) (_:d<=N) (xs ys:List AV) (vs us:Array Value) (b:Bool),fu P w D ι xs vs->fu P w D ι ys us->
  e6 ts ((xs.drop off).take ts.length) ((ys.drop off).take ts.length)=some b->(Op.eqFields (N+1) vs us fs).run P w=.ok b w:=by
 intro d
 induction d with
 |zero=>
  intro fs off ts hf N _ xs ys vs us b _ _ he
  cases fs with
  |nil=>simp[eM]at hf;subst hf;simp[e6]at he;subst he;simp[Op.eqFields]
  |cons f r=>simp[eM]at hf
 |succ d ihd=>
  intro fs
  induction fs with
  |nil=>
   intro off ts hf N _ xs ys vs us b _ _ he
   rw[IX]at hf;simp at hf;subst hf;simp[e6]at he;subst he;simp[Op.eqFields]
  |cons f r ih=>
   intro off ts hf N hN xs ys vs us b hx hy he
   rw[yZ]at hf
   split at hf
   ·rename_i hcond
    obtain⟨ho,ik⟩:=hcond
    split at hf
    ·rename_i s hs
     split at hf
     ·rename_i vL
      simp only[Option.map_eq_some_iff]at hf
      obtain⟨NN,hr,rfl⟩:=hf
      obtain⟨l1,l2⟩:=sb he
      simp only[List.length_cons,List.length_take,List.length_drop]at l1 l2
      have H4:off<xs.length:=by omega
      have hyo:off<ys.length:=by omega
      rw[List.drop_eq_getElem_cons H4,List.drop_eq_getElem_cons hyo,List.length_cons,List.take_succ_cons,List.take_succ_cons]at he
      unfold e6 at he
      split at he
      ·rename_i c d' h1 h2
       simp at he;subst he
       obtain⟨u,hu,ru⟩:=hx.2 off _ (List.getElem?_eq_getElem H4)
       obtain⟨u',FO,ru'⟩:=hy.2 off _ (List.getElem?_eq_getElem hyo)
       have:=ih (off+1) NN hr N hN xs ys vs us d' hx hy h2
       simp only[Op.eqFields,if_pos ik,Sem.run_bind,ho,mV vL hu,mV vL FO,Result.andThen_ok,sN ru ru' h1 hs,Sem.run_ite]
       cases c<;>simp[this]
      ·simp at he
     ·simp at hf
    ·split at hf
     ·rename_i fs' sg
      split at hf
      ·rename_i dK
       split at hf
       ·rename_i ts1 hts1
        split at hf
        ·rename_i fw
         simp only[Option.map_eq_some_iff]at hf
         obtain⟨NN,hr,rfl⟩:=hf
         obtain⟨c,d',h1,h2,rfl⟩:=Fz he
         obtain⟨l1,l2⟩:=sb he
         simp only[List.length_append,List.length_take,List.length_drop]at l1 l2
         have vL:ox P f.type=some true:=by simp[ox,sg]
         have kF:0<ts1.length:=List.length_pos_iff.2 fw.2
         have JB:off+ts1.length<=xs.length:=by omega
         have RY:off+ts1.length<=ys.length:=by omega
         rw[List.drop_take,List.drop_drop,List.drop_take,List.drop_drop]at h2
         rw[List.take_take,List.take_take]at h1
         simp only[List.length_append]at h1 h2
         rw[Nat.min_eq_left (by omega)]at h1
         have e2:ts1.length+NN.length-ts1.length=NN.length:=by omega
         rw[e2]at h2
         have:=ih (off+ts1.length) NN hr N hN xs ys vs us d' hx hy h2
         have fB:=ihd fs'.toList 0 ts1 hts1 (N-1) (by omega) _ _ _ _ c (hx.part off ts1.length JB) (hy.part off ts1.length RY) (by simpa[List.take_take]using h1)
         have hN':N-1+1=N:=by omega
         rw[hN']at fB
         have Jd:P.fieldsOf f.type=fs':=by simp[Program.fieldsOf,sg]
         simp only[Op.eqFields,if_pos ik,Sem.run_bind,ho,qe vL fw.1,Result.andThen_ok,Sem.run_ite]
         rw[run_equalIn_struct w N f.type _ _ (by rw[Jd];exact sg) (by simpa using dK),Jd,fB]
         cases c<;>simp[this]
        ·simp at hf
       ·simp at hf
      ·simp at hf
     ·simp at hf
   ·simp at hf
theorem SB {x y:Operand} {x' y':O} {t yt:TypeId} {neg:Bool} {s:TS} {b:Bool} (E:cu P w D ι env a) (ho:o.op=.binOp (if neg then .neq else .eql) t x y yt) (hs:fx P t=some s) (hx:cO P x=some x') (hy:cO P y=some y')
  (hv:fY s (cU env x') (cU env y')=some b):oX P a o w D ι (.bool (dt neg b)):=by
 have rx:=dp E hx
 have ry:=dp E hy
 refine⟨.bool (dt neg b),?_,.eP _ _ (.bool _)⟩
 have e0:(eqGuard (if neg then .neq else .eql) t x y (a.eval x) (a.eval y)).run P w=.ok () w:=by
  unfold fY at hv
  split at hv
  ·rename_i k n k' m h1 h2
   rw[h1]at rx;rw[h2]at ry
   rw[du rx,du ry];unfold eqGuard;cases neg<;>simp
  ·rename_i n m h1 h2
   rw[h1]at rx;rw[h2]at ry
   rw[fc rx,fc ry];unfold eqGuard;cases neg<;>simp
  ·rename_i n m h1 h2
   rw[h1]at rx;rw[h2]at ry
   rw[fH rx,fH ry];unfold eqGuard;cases neg<;>simp
  ·simp at hv
 have e1:(binOp (if neg then .neq else .eql) t (a.eval x) (a.eval y)).run P w=.ok (.bool (dt neg b)) w:=by
  have q:=sN (d:=9999) rx ry hv hs
  unfold fY at hv
  split at hv
  ·rename_i k n k' m h1 h2
   split at hv
   ·rename_i hk
    subst hk
    simp at hv;subst hv
    rw[h1]at rx;rw[h2]at ry
    rw[du rx,du ry]
    cases neg<;>simp only[binOp,ne_eq,not_true_eq_false,if_false,Op.intCmp,dt,if_true,Bool.false_eq_true]<;>simp[bne]<;>rfl
   ·simp at hv
  ·rename_i n m h1 h2
   rw[h1]at rx;rw[h2]at ry
   rw[fc rx,fc ry]at q ⊢
   cases neg<;>simp only[binOp,dt,if_true,Bool.false_eq_true,if_false,Sem.run_bind]<;>simp[Op.equal,Op.maxDepth,q]
  ·rename_i n m h1 h2
   simp at hv;subst hv
   rw[h1]at rx;rw[h2]at ry
   rw[fH rx,fH ry]
   cases neg<;>simp[binOp,Op.stringOp,dt,F7]
  ·simp at hv
 simp only[execOp,ho,Sem.run_bind,e0,e1,Result.andThen_ok,Sem.run_pure]
theorem Sz {x y:Operand} {x' y':O} {t yt:TypeId} {neg:Bool} {ts:List TS} {fs:Array Field} {xs ys:List AV} {b:Bool} (E:cu P w D ι env a) (ho:o.op=.binOp (if neg then .neq else .eql) t x y yt) (sg:P.underlying t=some (.struct fs)) (dK:P.stoodInHeld t=false) (LS:P.eqGuardType P.depth t=false)
  (yv:eM P 4 0 fs.toList=some ts) (hx:cO P x=some x') (hy:cO P y=some y') (h1:cU env x'=.agg xs) (h2:cU env y'=.agg ys)
  (hv:e6 ts xs ys=some b):oX P a o w D ι (.bool (dt neg b)):=by
 obtain⟨vs,f,rx,n1,_,f1,r1⟩:=ja (h1▸dp E hx)
 obtain⟨us,f',ry,n2,_,f2,r2⟩:=ja (h2▸dp E hy)
 refine⟨.bool (dt neg b),?_,.eP _ _ (.bool _)⟩
 obtain⟨l1,l2⟩:=sb hv
 have L:∀(xs:List AV) (vs:Array Value) (f:Nat->Value),vs.size=xs.length->(∀j,j<xs.length->vs[j]? =some (f j))->(∀j a,xs[j]? =some a->cL P w D ι a (f j))->fu P w D ι xs vs:=fun xs vs f h1 h2 h3=>
  ⟨h1,fun j a ha=>⟨f j,h2 j (List.getElem?_eq_some_iff.1 ha).1,h3 j a ha⟩⟩
 have q:=sM (w:=w) 4 fs.toList 0 ts yv 9998 (by omega) xs ys vs us b (L _ _ _ n1 f1 r1) (L _ _ _ n2 f2 r2) (by simpa[List.take_of_length_le,l1,l2]using hv)
 have Jd:P.fieldsOf t=fs:=by simp[Program.fieldsOf,sg]
 have q2:(Op.equal t (.agg vs) (.agg us)).run P w=.ok b w:=by
  unfold Op.equal
  rw[show Op.maxDepth=9999+1 from rfl,run_equalIn_struct w 9999 t _ _ (by rw[Jd];exact sg) dK,Jd,q]
 simp only[execOp,ho,Sem.run_bind,rx,ry,run_eqGuard_agg w _ _ _ _ _ _ LS,Result.andThen_ok]
 cases neg<;>simp[binOp,q2,dt]
theorem PW {x:Operand} {x':O} {t yt e:TypeId} {neg:Bool} {b:Bool} (E:cu P w D ι env a) (ho:o.op=.binOp (if neg then .neq else .eql) t x (.const (.slice none 0 0)) yt) (ht:P.underlying t=some (.slice e)) (hx:cO P x=some x')
  (hv:di (cU env x')=some b):oX P a o w D ι (.bool (dt neg b)):=by
 have hr:=dp E hx
 have rx:∃A n c,a.eval x=.slice A n c/\b=A.isNone:=by
  unfold di at hv
  split at hv<;>simp at hv<;>subst hv<;>rename_i hh
  ·rw[hh]at hr;exact⟨_,_,_,kn hr,rfl⟩
  ·rw[hh]at hr;obtain⟨o,cap,B,h,_⟩:=jb hr
   exact⟨_,_,_,h,rfl⟩
  ·rw[hh]at hr
   obtain⟨A,c,h',_,_,h⟩:=xz hr
   rcases h with h|⟨b,o,sz,vs,rfl,_⟩
   ·simp at h
   ·exact⟨_,_,_,h',rfl⟩
 refine⟨.bool (dt neg b),?_,.eP _ _ (.bool _)⟩
 obtain⟨A,n,c,h,rfl⟩:=rx
 have hq:(Op.equal t (.slice A n c) (.slice none 0 0)).run P w=.ok A.isNone w:=by
  unfold Op.equal
  rw[show Op.maxDepth=9999+1 from rfl,Op.equalIn]
  simp only[Sem.run_bind,run_underlying ht,Result.andThen_ok]
  cases A<;>rfl
 have hc:a.eval (.const (.slice none 0 0))=.slice none 0 0:=rfl
 simp only[execOp,ho,h,hc]
 cases neg<;>simp only[Bool.false_eq_true,if_false,if_true,Bool.not_true,Bool.not_false,eqGuard,binOp,dt,Sem.run_bind,hq,Result.andThen_ok,Sem.run_pure]
theorem SA {x:Operand} {x':O} {t yt e:TypeId} {neg:Bool} {b:Bool} (E:cu P w D ι env a) (ho:o.op=.binOp (if neg then .neq else .eql) t x (.const (.pointer none)) yt) (ht:P.underlying t=some (.pointer e)) (hx:cO P x=some x')
  (hv:KQ (cU env x')=some b):oX P a o w D ι (.bool (dt neg b)):=by
 have hr:=dp E hx
 have rx:∃A,a.eval x=.pointer A/\b=A.isNone:=by
  unfold KQ at hv
  split at hv<;>simp at hv<;>subst hv<;>rename_i hh
  ·rw[hh]at hr;exact⟨_,Kc hr,rfl⟩
  ·rw[hh]at hr;obtain⟨B,h,_⟩:=iL hr
   exact⟨_,h,rfl⟩
  ·rw[hh]at hr;obtain⟨_,_,_,h,_⟩:=lq hr
   exact⟨_,h,rfl⟩
 refine⟨.bool (dt neg b),?_,.eP _ _ (.bool _)⟩
 obtain⟨A,h,rfl⟩:=rx
 have hq:(Op.equal t (.pointer A) (.pointer none)).run P w=.ok A.isNone w:=by
  unfold Op.equal
  rw[show Op.maxDepth=9999+1 from rfl,Op.equalIn]
  simp only[Sem.run_bind,run_underlying ht,Result.andThen_ok]
  cases A<;>rfl
 have hc:a.eval (.const (.pointer none))=.pointer none:=rfl
 simp only[execOp,ho,h,hc]
 cases neg<;>simp only[Bool.false_eq_true,if_false,if_true,Bool.not_true,Bool.not_false,eqGuard,binOp,dt,Sem.run_bind,hq,Result.andThen_ok,Sem.run_pure]
theorem PV {x:Operand} {x':O} {t yt:TypeId} {p r:Array TypeId} {va:Bool} {neg:Bool} {b:Bool} (E:cu P w D ι env a) (ho:o.op=.binOp (if neg then .neq else .eql) t x (.const .nilFunc) yt) (ht:P.underlying t=some (.func p r va)) (hx:cO P x=some x')
  (hv:dh (cU env x')=some b):oX P a o w D ι (.bool (dt neg b)):=by
 have hr:=dp E hx
 have rx:a.eval x=.nilFunc/\b=true∨∃f c,a.eval x=.func f #[] c/\b=false:=by
  unfold dh at hv
  split at hv<;>simp at hv<;>subst hv<;>rename_i hh
  ·rw[hh]at hr;exact .inl ⟨xx hr,rfl⟩
  ·rw[hh]at hr;obtain⟨vs,g,h,_⟩:=AJ hr
   exact .inr ⟨_,_,h,rfl⟩
 refine⟨.bool (dt neg b),?_,.eP _ _ (.bool _)⟩
 have hc:a.eval (.const .nilFunc)=.nilFunc:=rfl
 rcases rx with⟨h,rfl⟩|⟨f,c,h,rfl⟩
 ·have hq:(Op.equal t .nilFunc .nilFunc).run P w=.ok true w:=by
   unfold Op.equal
   rw[show Op.maxDepth=9999+1 from rfl,Op.equalIn]
   simp only[Sem.run_bind,run_underlying ht,Result.andThen_ok]
   rfl
  simp only[execOp,ho,h,hc]
  cases neg<;>simp only[Bool.false_eq_true,if_false,if_true,Bool.not_true,Bool.not_false,eqGuard,binOp,dt,Sem.run_bind,hq,Result.andThen_ok,Sem.run_pure]
 ·have hq:(Op.equal t (.func f #[] c) .nilFunc).run P w=.ok false w:=by
   unfold Op.equal
   rw[show Op.maxDepth=9999+1 from rfl,Op.equalIn]
   simp only[Sem.run_bind,run_underlying ht,Result.andThen_ok]
   rfl
  simp only[execOp,ho,h,hc]
  cases neg<;>simp only[Bool.false_eq_true,if_false,if_true,Bool.not_true,Bool.not_false,eqGuard,binOp,dt,Sem.run_bind,hq,Result.andThen_ok,Sem.run_pure]
theorem SE {x:Operand} {x':O} {t:TypeId} (E:cu P w D ι env a) (ho:o.op=.unOp .not t x) (hx:cO P x=some x') (hv:er (cU env x')=some v):oX P a o w D ι v:=by
 have hr:=dp E hx
 unfold er at hv
 split at hv
 ·rename_i b hb
  simp at hv;subst hv
  rw[hb]at hr
  exact⟨_,by simp only[execOp,ho,fc hr];rfl,.eP _ _ (.bool _)⟩
 ·simp at hv
theorem SD {x:Operand} {x':O} {t:TypeId} (E:cu P w D ι env a) (ho:o.op=.unOp .neg t x) (hx:cO P x=some x') (hv:eo (cU env x')=some v):oX P a o w D ι v:=by
 have hr:=dp E hx
 unfold eo at hv
 split at hv
 ·rename_i k n hb
  simp at hv;subst hv
  rw[hb]at hr
  refine⟨_,by simp only[execOp,ho,du hr];rfl,?_⟩
  rw[Int.zero_sub];exact .eP _ _ (.int _ _)
 ·simp at hv
theorem PU {x:Operand} {x':O} {s d:TypeId} {k q:IntKind} (E:cu P w D ι env a) (ho:o.op=.convert s d x) (hs:P.underlying s=some (.int q)) (hd:P.underlying d=some (.int k)) (hx:cO P x=some x') (hv:cY k (cU env x')=some v):oX P a o w D ι v:=by
 have hr:=dp E hx
 unfold cY at hv
 split at hv
 ·rename_i k' n hb
  simp at hv;subst hv
  rw[hb]at hr
  refine⟨.int k (k.wrap n),?_,.eP _ _ (.int _ _)⟩
  simp only[execOp,ho,du hr,convert,Sem.run_bind,run_underlying hs,run_underlying hd,Result.andThen_ok,Conv.intToInt,Sem.run_pure]
 ·simp at hv
theorem M1 {x:Operand} {x':O} {s:TypeId} {i:Nat} {fs:Array Field} {f:Field} {m:Nat} (E:cu P w D ι env a) (ho:o.op=.fieldAddr s x i) (hs:P.underlying s=some (.struct fs)) (hf:fs[i]? =some f) (hm:ec P f.type=some (m+1)) (hx:cO P x=some x')
  (hv:Fe f.offset (cU env x')=some v):oX P a o w D ι v:=by
 have hr:=dp E hx
 have go:∀b oo,a.eval x=.pointer (some ⟨b,oo,none⟩)->(execOp a.eval o).run P w=.ok (.value (.pointer (some ⟨b,oo+f.offset,none⟩))) w:=fun b oo h=>by
  simp only[execOp,ho,h,Instr.fieldAt,Sem.run_bind,run_underlying hs,Result.andThen_ok,hf,Instr.sureAddr,Sem.run_pure,fieldPlace,run_sizeOf hm,Nat.add_eq_zero_iff,Nat.one_ne_zero,and_false,if_false,Addr.add]
  split
  ·rename_i h0;simp[h0]
  ·rfl
 unfold Fe at hv
 split at hv
 ·rename_i kb i' oo hb
  simp at hv;subst hv
  rw[hb]at hr
  obtain⟨B,h,hB,hk⟩:=iL hr
  refine⟨_,go _ _ h,?_⟩
  rw[Nat.add_assoc]
  exact .ptr _ _ _ _ hB hk
 ·rename_i cs hb
  simp at hv;subst hv
  rw[hb]at hr
  obtain⟨b,oo,vs,h,h1,h2,h3,h4⟩:=lq hr
  refine⟨_,go _ _ h,.eP _ _ (.dn _ _ _ (fun j=>vs (f.offset+j)) h1 (fun a ha=>h2 a (List.mem_of_mem_drop ha)) (fun j hj=>?_) (fun j a ha=>h4 _ _ (by simpa using ha)))⟩
  rw[Nat.add_assoc]
  exact h3 _ (by simp at hj;omega)
 ·simp at hv
theorem M3 {x:Operand} {x':O} {s:TypeId} {i n:Nat} {ag:Bool} {fs:Array Field} {f:Field} (E:cu P w D ι env a) (ho:o.op=.field s x i) (hs:P.underlying s=some (.struct fs)) (hf:fs[i]? =some f) (vL:ox P f.type=some ag) (hm:ec P f.type=some n) (hx:cO P x=some x')
  (hv:bP ag f.offset n (cU env x')=some v):oX P a o w D ι v:=by
 have hr:=dp E hx
 unfold bP at hv
 split at hv
 ·rename_i cs hb
  split at hv
  ·rename_i hl
   rw[hb]at hr
   obtain⟨vs,g,h,n1,fl,f1,r1⟩:=ja hr
   unfold part at hv
   cases ag with
   |true=>
    simp only[if_true]at hv
    split at hv
    ·simp at hv;subst hv
     refine⟨.agg (vs.extract f.offset (f.offset+n)),?_,.agg _ _ (fun j=>g (f.offset+j)) (by simp[n1];omega) (fun a ha=>fl a (List.mem_of_mem_drop (List.mem_of_mem_take ha))) (fun j hj=>?_) (fun j a ha=>?_)⟩
     ·simp only[execOp,ho,h,Instr.field,Sem.run_bind,run_underlying hs,Result.andThen_ok,hf,asAgg,Sem.run_pure,qe vL hm]
     ·simp at hj
      rw[Array.getElem?_extract,if_pos (by omega)];exact f1 _ (by omega)
     ·rw[List.getElem?_take]at ha
      split at ha
      ·exact r1 _ _ (by simpa using ha)
      ·simp at ha
    ·simp at hv
   |false=>
    simp only[Bool.false_eq_true,if_false]at hv
    have oG:cs[f.offset]? =some v:=by simpa[List.head?_drop]using hv
    have dY:=(List.getElem?_eq_some_iff.1 oG).1
    exact⟨g f.offset,by simp only[execOp,ho,h,Instr.field,Sem.run_bind,run_underlying hs,Result.andThen_ok,hf,asAgg,Sem.run_pure,mV vL (f1 _ dY)],r1 _ _ oG⟩
  ·simp at hv
 ·simp at hv
theorem SF {left:Bool} {x y:Operand} {x' y':O} {t yt:TypeId} (E:cu P w D ι env a) (ho:o.op=.binOp (if left then .shl else .shr) t x y yt) (hx:cO P x=some x') (hy:cO P y=some y') (hv:iu left (cU env x') (cU env y')=some v):oX P a o w D ι v:=by
 unfold iu at hv
 split at hv
 ·rename_i k n k' m hb tA
  split at hv
  ·simp at hv
  ·rename_i hm
   simp at hv;subst hv
   have h1:=du (hb▸dp E hx)
   have h2:=du (tA▸dp E hy)
   refine⟨_,?_,.eP _ _ (.int _ _)⟩
   simp only[execOp,ho,h1,h2]
   cases left<;>simp only[Bool.false_eq_true,if_false,if_true,eqGuard,Bool.not_true,Bool.not_false,binOp,Op.shift,hm,Sem.run_bind,Sem.run_pure,Result.andThen_ok]<;>rfl
 ·simp at hv
end
end Go.Proofs.YtgoljkjaameagaaGreat.V

namespace Go.Proofs.YtgoljkjaameagaaGreat.V
open Go.RowKit
variable {P:Program} {w w':World} {D D':Nat->Prop} {ι ι':Names}
theorem kr (b o j:Nat):(⟨b,o,none⟩:Addr).add j=⟨b,o+j,none⟩:=by unfold Addr.add;split<;>simp_all
section
variable {g:Rows} {hs:Nat} {env:Env} {a:Act} {o:Oper} {id:Id} {v:AV}
theorem kS {t:TypeId} {ag:Bool} {n b oo:Nat} {cs:List AV} {v:AV} {f:Nat->Value} (vL:ox P t=some ag) (hn:ec P t=some n) (hp:part ag n cs=some v) (fl:∀a∈cs,a.cell=true)
  (hc:∀j,j<cs.length->w.cell? ⟨b,oo+j,none⟩=some (f j)) (hr:∀j a,cs[j]? =some a->cL P w D ι a (f j)):∃u,(loadVar t ⟨b,oo,none⟩).run P w=.ok u w/\cL P w D ι v u:=by
 unfold part at hp
 cases ag with
 |true=>
  simp only[if_true]at hp
  split at hp
  ·rename_i hl
   simp at hp;subst hp
   refine⟨.agg ((List.range n).map f).toArray,?_,.agg _ _ f (by simp;omega) (fun a ha=>fl a (List.mem_of_mem_take ha)) (fun j hj=>?_) (fun j a ha=>?_)⟩
   ·simp only[loadVar,Sem.run_bind,tV vL,Result.andThen_ok,if_true,run_sizeOf hn,Sem.run_pure]
    rw[run_loadCells w _ n f (fun j hj=>by rw[kr];exact hc j (by omega))]
    rfl
   ·simp at hj
    have:j<n:=by omega
    simp[this]
   ·rw[List.getElem?_take]at ha
    split at ha
    ·exact hr _ _ ha
    ·simp at ha
  ·simp at hp
 |false=>
  simp only[Bool.false_eq_true,if_false]at hp
  cases cs with
  |nil=>simp at hp
  |cons c r=>
   simp at hp;subst hp
   refine⟨f 0,?_,hr 0 _ rfl⟩
   simp only[loadVar,Sem.run_bind,tV vL,Result.andThen_ok,Bool.false_eq_true,if_false]
   have:=hc 0 (by simp)
   simp at this
   rw[run_load,this]
theorem Ko {S:gD P hs D ι g w} {i:Nat} {cs:List AV} (h:rowAt g id i=some cs) (hk:∀B,ι id=some B->B.k=none):∃B r,g id=some r/\ι id=some B/\lR P w D ι B r/\r.rows[i]? =some cs/\(∀a∈cs,a.cell=true)/\∃f:Nat->Value,∀j,j<cs.length->w.cell? ⟨B.b,i*B.sz+j,none⟩=some (f j)/\∀a,cs[j]? =some a->cL P w D ι a (f j):=by
 unfold rowAt at h
 simp only[Option.bind_eq_some_iff]at h
 obtain⟨r,hr,hi⟩:=h
 obtain⟨B,hB,R,_,_⟩:=S.row id r hr
 replace R:=R.row (hk B hB)
 refine⟨B,r,hr,hB,R,hi,R.flat cs (List.mem_of_getElem? hi),fun j=>(w.cell? ⟨B.b,i*B.sz+j,none⟩).getD undef,fun j hj=>?_⟩
 obtain⟨u,hu,yu⟩:=R.at_ i j cs _ hi (List.getElem?_eq_getElem hj)
 rw[R.sz,hu]
 refine⟨by simp only[hu,Option.getD_some],fun a ha=>?_⟩
 rw[List.getElem?_eq_getElem hj]at ha
 injection ha with ha
 subst ha
 simpa only[hu,Option.getD_some]using yu
theorem P4 {x:Operand} {x':O} {t:TypeId} {ag:Bool} {n:Nat} (S:gD P hs D ι g w) (E:cu P w D ι env a) (ho:o.op=.load t x) (vL:ox P t=some ag) (hn:ec P t=some n) (hx:cO P x=some x') (hv:ld g ag n (cU env x')=some v):oX P a o w D ι v:=by
 have hr:=dp E hx
 have go:∀b oo u,a.eval x=.pointer (some ⟨b,oo,none⟩)->(loadVar t ⟨b,oo,none⟩).run P w=.ok u w->(execOp a.eval o).run P w=.ok (.value u) w:=fun b oo u h h2=>by
  simp only[execOp,ho,h,Instr.loadAt,Instr.sureAddr,Sem.run_bind,Sem.run_pure,Result.andThen_ok,h2]
 unfold ld at hv
 split at hv
 ·rename_i kb i' oo hb
  rw[hb]at hr
  obtain⟨B,h,hB,hk⟩:=iL hr
  simp only[Option.bind_eq_some_iff]at hv
  obtain⟨cs,dx,hp⟩:=hv
  obtain⟨B',r,Dg,dD,R,hi,fl,f,hf⟩:=Ko (S:=S) dx (fun B2 h2=>by rw[hB]at h2;injection h2 with h2;subst h2;exact hk)
  rw[hB]at dD;injection dD with dD;subst dD
  obtain⟨u,h1,h2⟩:=kS (w:=w) (b:=B.b) (oo:=i'*B.sz+oo) (f:=fun j=>f (oo+j)) vL hn hp (fun a ha=>fl a (List.mem_of_mem_drop ha)) (fun j hj=>by
   rw[Nat.add_assoc];exact(hf _ (by simp at hj;omega)).1) (fun j a ha=>by
   simp at ha;exact(hf _ ((List.getElem?_eq_some_iff.1 ha).1)).2 _ ha)
  exact⟨u,go _ _ _ h h1,h2⟩
 ·rename_i cs hb
  rw[hb]at hr
  obtain⟨b,oo,vs,h,h1,h2,h3,h4⟩:=lq hr
  obtain⟨u,k1,k2⟩:=kS (w:=w) (b:=b) (oo:=oo) (f:=vs) vL hn hv h2 h3 (fun j a ha=>.eP _ _ (h4 j a ha))
  exact⟨u,go _ _ _ h k1,k2⟩
 ·simp at hv
theorem Sy {x:Operand} {x':O} (E:cu P w D ι env a) (ho:o.op=.nilCheck x) (hx:cO P x=some x') (hv:ej (cU env x')=some v):oX P a o w D ι v:=by
 have hr:=dp E hx
 unfold ej at hv
 split at hv
 ·rename_i kb i' oo hb
  simp at hv;subst hv
  rw[hb]at hr
  obtain⟨B,h,hB,hk⟩:=iL hr
  exact⟨_,by simp only[execOp,ho,h];rfl,.ptr _ _ _ _ hB hk⟩
 ·rename_i cs hb
  simp at hv;subst hv
  rw[hb]at hr
  obtain⟨b,oo,vs,h,_⟩:=lq hr
  exact⟨_,by simp only[execOp,ho,h];rfl,h▸hr⟩
 ·simp at hv
theorem M4 {x i:Operand} {x' i':O} {t e:TypeId} {m:Nat} (S:gD P hs D ι g w) (E:cu P w D ι env a) (ho:o.op=.indexAddr t x i) (ht:P.underlying t=some (.slice e)) (hm:ec P e=some (m+1)) (hx:cO P x=some x') (hi:cO P i=some i')
  (hv:bQ g (m+1) (cU env x') (cU env i')=some v):oX P a o w D ι v:=by
 have hr:=dp E hx
 have Eb:=dp E hi
 have go:∀b oo n c k (q:Int),a.eval x=.slice (some ⟨b,oo,none⟩) n c->a.eval i=.int k q->0<=q->q<n->(execOp a.eval o).run P w=.ok (.value (.pointer (some ⟨b,oo+q.toNat*(m+1),none⟩))) w:=fun b oo n c k q h h2 h3 h4=>by
  simp only[execOp,ho,h,h2,Instr.indexAt,asIntOf,Sem.run_bind,Sem.run_pure,run_underlying ht,Result.andThen_ok,h3,h4,and_self,if_true,run_sizeOf hm,kr]
 unfold bQ at hv
 split at hv
 ·rename_i rows k q hb tA
  split at hv
  ·rename_i hq
   simp only[Option.bind_eq_some_iff]at hv
   obtain⟨cs,dx,hv⟩:=hv
   split at hv
   ·rename_i hlen
    simp at hv;subst hv
    rw[hb]at hr;rw[tA]at Eb
    have dY:=(List.getElem?_eq_some_iff.1 dx).1
    obtain⟨A,c,h,h1,h2,h3⟩:=xz hr
    rcases h3 with h3|⟨b,oo,sz,vs,rfl,hD,hl,fl,hc,hi⟩
    ·subst h3;simp at dx
    have fw:sz=m+1:=by rw[<-hlen,hl cs (List.mem_of_getElem? dx)]
    refine⟨_,go b oo _ _ k q h (du Eb) hq (by omega),.eP _ _ (.dn cs b _ (vs q.toNat) hD (fl cs (List.mem_of_getElem? dx)) (fun j hj=>?_) (fun j a ha=>hi _ _ _ _ dx ha))⟩
    have:=hc q.toNat j dY (by rw[<-hl cs (List.mem_of_getElem? dx)];exact hj)
    rw[fw]at this
    rw[Nat.add_assoc];exact this
   ·simp at hv
  ·simp at hv
 ·rename_i kb off len k q hb tA
  split at hv
  ·rename_i hq
   simp only[Option.bind_eq_some_iff]at hv
   obtain⟨r,Dg,hv⟩:=hv
   split at hv
   ·rename_i zb
    simp at hv;subst hv
    rw[hb]at hr;rw[tA]at Eb
    obtain⟨oo,cap,B,h,hB,h1,h2,h3,h4,hk⟩:=jb hr
    obtain⟨B',dD,R,_,_⟩:=S.row _ _ Dg
    rw[hB]at dD;injection dD with dD;subst dD
    replace R:=R.row hk
    have fw:B.sz=m+1:=R.sz.trans zb
    refine⟨_,go _ _ _ _ k q h (du Eb) hq.1 hq.2,?_⟩
    have Dd:oo=off*B.sz:=by rcases h2 with h2|h2<;>omega
    have:oo+q.toNat*(m+1)=(off+q.toNat)*B.sz+0:=by rw[Dd,<-fw,Nat.add_mul];rfl
    rw[this]
    exact .ptr _ _ _ _ hB hk
   ·simp at hv
  ·simp at hv
 ·simp at hv
theorem PX {x i:Operand} {x' i':O} {t e:TypeId} {m len:Nat} (E:cu P w D ι env a) (ho:o.op=.indexAddr t x i) (ht:P.underlying t=some (.array len e)) (hm:ec P e=some (m+1)) (hx:cO P x=some x') (hi:cO P i=some i')
  (hv:cZ len (m+1) (cU env x') (cU env i')=some v):oX P a o w D ι v:=by
 have hr:=dp E hx
 have Eb:=dp E hi
 have go:∀b oo k (q:Int),a.eval x=.pointer (some ⟨b,oo,none⟩)->a.eval i=.int k q->0<=q->q<len->(execOp a.eval o).run P w=.ok (.value (.pointer (some ⟨b,oo+q.toNat*(m+1),none⟩))) w:=fun b oo k q h h2 h3 h4=>by
  simp only[execOp,ho,h,h2,Instr.indexAt,asIntOf,Sem.run_bind,Sem.run_pure,run_underlying ht,Instr.sureAddr,Result.andThen_ok,h3,h4,and_self,if_true,run_sizeOf hm,kr]
 unfold cZ at hv
 split at hv
 ·rename_i kb r oo k q hb tA
  split at hv
  ·rename_i hq
   simp at hv;subst hv
   rw[hb]at hr;rw[tA]at Eb
   obtain⟨B,h,hB,hk⟩:=iL hr
   refine⟨_,go _ _ k q h (du Eb) hq.1 hq.2,?_⟩
   rw[Nat.add_assoc]
   exact .ptr _ _ _ _ hB hk
  ·simp at hv
 ·rename_i cs k q hb tA
  split at hv
  ·rename_i hq
   simp at hv;subst hv
   rw[hb]at hr;rw[tA]at Eb
   obtain⟨b,oo,vs,h,h1,h2,h3,h4⟩:=lq hr
   refine⟨_,go _ _ k q h (du Eb) hq.1 hq.2,.eP _ _ (.dn _ _ _ (fun j=>vs (q.toNat*(m+1)+j)) h1 (fun a ha=>h2 a (List.mem_of_mem_drop ha)) (fun j hj=>?_) (fun j a ha=>h4 _ _ (by simpa using ha)))⟩
   rw[Nat.add_assoc]
   exact h3 _ (by simp at hj;omega)
  ·simp at hv
 ·simp at hv
theorem PZ {x i:Operand} {x' i':O} {t:TypeId} (E:cu P w D ι env a) (ho:o.op=.index t x i) (ht:P.underlying t=some .string) (hx:cO P x=some x') (hi:cO P i=some i')
  (hv:db (cU env x') (cU env i')=some v):oX P a o w D ι v:=by
 have hr:=dp E hx
 have Eb:=dp E hi
 unfold db at hv
 split at hv
 ·rename_i s k q hb tA
  split at hv
  ·rename_i hq
   simp only[Option.map_eq_some_iff]at hv
   obtain⟨c,hc,rfl⟩:=hv
   rw[hb]at hr;rw[tA]at Eb
   refine⟨_,?_,.eP _ _ (.int _ _)⟩
   simp only[execOp,ho,fH hr,du Eb,Instr.index,asIntOf,Sem.run_bind,Sem.run_pure,run_underlying ht,Result.andThen_ok,hq,if_true,hc]
  ·simp at hv
 ·simp at hv
theorem PY {x i:Operand} {x' i':O} {t e:TypeId} {ag:Bool} {len n:Nat} (E:cu P w D ι env a) (ho:o.op=.index t x i) (ht:P.underlying t=some (.array len e)) (vL:ox P e=some ag) (hn:ec P e=some n) (hx:cO P x=some x') (hi:cO P i=some i')
  (hv:da ag len n (cU env x') (cU env i')=some v):oX P a o w D ι v:=by
 have hr:=dp E hx
 have Eb:=dp E hi
 unfold da at hv
 split at hv
 ·rename_i cs k q hb tA
  split at hv
  ·rename_i hq
   rw[hb]at hr;rw[tA]at Eb
   obtain⟨vs,f,h,n1,fl,f1,r1⟩:=ja hr
   have go:∀u,(Go.part e vs (q.toNat*n)).run P w=.ok u w->(execOp a.eval o).run P w=.ok (.value u) w:=fun u hu=>by
    simp only[execOp,ho,h,du Eb,Instr.index,asIntOf,Sem.run_bind,Sem.run_pure,run_underlying ht,Result.andThen_ok,hq,and_self,if_true,run_sizeOf hn,hu]
   unfold part at hv
   cases ag with
   |true=>
    simp only[if_true]at hv
    split at hv
    ·rename_i hl
     simp at hv;subst hv
     simp only[List.length_drop]at hl
     by_cases HZ:n=0
     ·subst HZ
      refine⟨_,go _ (qe vL hn),.agg _ _ (fun _=>undef) (by simp) (fun a ha=>by simp at ha) (fun j hj=>by simp at hj) (fun j a ha=>by simp at ha)⟩
     refine⟨_,go _ (qe vL hn),.agg _ _ (fun j=>f (q.toNat*n+j)) (by simp[n1];omega) (fun a ha=>fl a (List.mem_of_mem_drop (List.mem_of_mem_take ha))) (fun j hj=>?_) (fun j a ha=>?_)⟩
     ·simp at hj
      rw[Array.getElem?_extract,if_pos (by omega)];exact f1 _ (by omega)
     ·rw[List.getElem?_take]at ha
      split at ha
      ·exact r1 _ _ (by simpa using ha)
      ·simp at ha
    ·simp at hv
   |false=>
    simp only[Bool.false_eq_true,if_false]at hv
    have oG:cs[q.toNat*n]? =some v:=by simpa[List.head?_drop]using hv
    have dY:=(List.getElem?_eq_some_iff.1 oG).1
    exact⟨_,go _ (mV vL (f1 _ dY)),r1 _ _ oG⟩
  ·simp at hv
 ·simp at hv
theorem HR {x:Operand} {x':O} {i:Nat} (E:cu P w D ι env a) (ho:o.op=.extract x i) (hx:cO P x=some x') (hv:aQ i (cU env x')=some v):oX P a o w D ι v:=by
 have hr:=dp E hx
 unfold aQ at hv
 split at hv
 ·rename_i vs hb
  rw[hb]at hr
  obtain⟨us,f,h,h1,h2,h3⟩:=vW hr
  have dY:=(List.getElem?_eq_some_iff.1 hv).1
  exact⟨_,by simp only[execOp,ho,h,Instr.extract,h2 _ dY];rfl,h3 _ _ hv⟩
 ·simp at hv
theorem SC {x:Operand} {x':O} {t:TypeId} {e:TypeId} {n:Nat} (E:cu P w D ι env a) (ho:o.op=.call {callee:=.builtin .len,args:= #[x],argTypes:= #[t]}) (ht:P.underlying t=some (.slice e)) (hx:cO P x=some x') (hv:ek (cU env x')=some n):oX P a o w D ι (.int .i64 n):=by
 have hr:=dp E hx
 have go:∀A c,a.eval x=.slice A n c->(execOp a.eval o).run P w=.ok (.value (.int .i64 n)) w:=fun A c h=>by
  simp only[execOp,ho,resolve,Sem.run_bind,Sem.run_pure,Result.andThen_ok,invoke,builtin,Array.map,h]
  simp[Builtin.len_,run_underlying ht,goInt,h]
 refine⟨.int .i64 n,?_,.eP _ _ (.int _ _)⟩
 unfold ek at hv
 split at hv<;>simp at hv<;>subst hv<;>rename_i hb<;>rw[hb]at hr
 ·exact go _ _ (kn hr)
 ·obtain⟨A,c,h,_⟩:=xz hr;exact go _ _ h
 ·obtain⟨oo,cap,B,h,_⟩:=jb hr;exact go _ _ h
theorem P3 {x:Operand} {x':O} {t:TypeId} (E:cu P w D ι env a) (ho:o.op=.call {callee:=.builtin .len,args:= #[x],argTypes:= #[t]}) (ht:P.underlying t=some .string) (hx:cO P x=some x') (hv:dd (cU env x')=some v):oX P a o w D ι v:=by
 have hr:=dp E hx
 unfold dd at hv
 split at hv
 ·rename_i s hb
  simp at hv;subst hv
  rw[hb]at hr
  have h:=fH hr
  refine⟨_,?_,.eP _ _ (.int _ _)⟩
  simp only[execOp,ho,resolve,Sem.run_bind,Sem.run_pure,Result.andThen_ok,invoke,builtin,Array.map,h]
  simp[Builtin.len_,run_underlying ht,goInt,h]
 ·simp at hv
theorem nG {isS:Bool} {len cap h l:Nat} {lo hi:Option Operand} {NG rN:Option O} (E:cu P w D ι env a) (kD:r5 P lo=some NG) (Dh:r5 P hi=some rN) (hh:dV len (rN.map (cU env))=some h) (hl:dW h (NG.map (cU env))=some l) (hc:len<=cap):
  (Instr.sliceBounds isS len cap (lo.map a.eval) (hi.map a.eval) none).run P w=.ok (l,h,cap) w/\l<=h/\h<=len:=by
 have bound:∀(x:Operand) (y:O) (k:IntKind) (n:Int) (m:Nat) (c:BoundsCode),cO P x=some y->cU env y=.int k n->0<=n->n<=m->(Instr.sliceBound (a.eval x) m c).run P w=.ok n.toNat w:=fun x y k n m c hx hy h0 h1=>by
  have hr:=dp E hx
  rw[hy]at hr
  simp only[Instr.sliceBound,du hr,asIntOf,Sem.run_bind,Sem.run_pure,Result.andThen_ok,h0,h1,and_self,if_true]
 have H:h<=len/\((hi=none/\h=len)∨∃x,hi=some x/\∀c,(Instr.sliceBound (a.eval x) cap c).run P w=.ok h w):=by
  cases hi with
  |none=>
   simp[r5]at Dh;subst Dh
   simp[dV]at hh;subst hh
   exact⟨Nat.le_refl _,.inl ⟨rfl,rfl⟩⟩
  |some x=>
   simp only[r5,Option.map_eq_some_iff]at Dh
   obtain⟨y,hy,rfl⟩:=Dh
   simp only[Option.map_some,dV]at hh
   split at hh
   ·rename_i e;cases e
   ·rename_i k n e
    injection e with e
    split at hh
    ·rename_i hn
     simp at hh;subst hh
     exact⟨by omega,.inr ⟨x,rfl,fun c=>bound x y k n _ _ hy e hn.1 (by omega)⟩⟩
    ·simp at hh
   ·simp at hh
 have L:l<=h/\((lo=none/\l=0)∨∃x,lo=some x/\∀c,(Instr.sliceBound (a.eval x) h c).run P w=.ok l w):=by
  cases lo with
  |none=>
   simp[r5]at kD;subst kD
   simp[dW]at hl;subst hl
   exact⟨Nat.zero_le _,.inl ⟨rfl,rfl⟩⟩
  |some x=>
   simp only[r5,Option.map_eq_some_iff]at kD
   obtain⟨y,hy,rfl⟩:=kD
   simp only[Option.map_some,dW]at hl
   split at hl
   ·rename_i e;cases e
   ·rename_i k n e
    injection e with e
    split at hl
    ·rename_i hn
     simp at hl;subst hl
     exact⟨by omega,.inr ⟨x,rfl,fun c=>bound x y k n h _ hy e hn.1 hn.2⟩⟩
    ·simp at hl
   ·simp at hl
 refine⟨?_,L.1,H.1⟩
 unfold Instr.sliceBounds
 rcases H.2 with⟨rfl,rfl⟩|⟨x,rfl,hx⟩<;>rcases L.2 with⟨rfl,rfl⟩|⟨y,rfl,hy⟩<;>
  simp only[Option.map_none,Option.map_some,Sem.run_bind,Sem.run_pure,Result.andThen_ok, *]
theorem M5 {x:Operand} {x':O} {lo hi:Option Operand} {NG rN:Option O} {t e:TypeId} {m:Nat} (S:gD P hs D ι g w) (E:cu P w D ι env a) (ho:o.op=.slice t x lo hi none) (ht:P.underlying t=some (.slice e)) (hm:ec P e=some m) (hx:cO P x=some x') (kD:r5 P lo=some NG) (Dh:r5 P hi=some rN)
  (hv:bU g m (cU env x') (NG.map (cU env)) (rN.map (cU env))=some v):oX P a o w D ι v:=by
 have hr:=dp E hx
 have go:∀A len cap l h,a.eval x=.slice A len cap->(Instr.sliceBounds true len cap (lo.map a.eval) (hi.map a.eval) none).run P w=.ok (l,h,cap) w->(execOp a.eval o).run P w=.ok (.value (.slice (if cap=l then A else A.map (·.add (l*m))) (h-l) (cap-l))) w:=fun A len cap l h h1 h2=>by
  simp only[execOp,ho,h1,Instr.sliceAt,Instr.slice,Sem.run_bind,Sem.run_pure,run_underlying ht,Result.andThen_ok,Option.map_none,h2,run_sizeOf hm]
 unfold bU at hv
 split at hv
 ·rename_i hb
  rw[hb]at hr
  simp only[Option.bind_eq_some_iff,Option.map_eq_some_iff]at hv
  obtain⟨h,hh,l,hl,rfl⟩:=hv
  obtain⟨q,q1,q2⟩:=nG (w:=w) (isS:=true) (cap:=0) E kD Dh hh hl (Nat.le_refl _)
  have h0:h=0:=by omega
  have l0:l=0:=by omega
  subst h0;subst l0
  refine⟨_,go _ _ _ _ _ (kn hr) q,?_⟩
  simp;exact .eP _ _ .cC
 ·rename_i rows hb
  rw[hb]at hr
  simp only[Option.bind_eq_some_iff,Option.map_eq_some_iff]at hv
  obtain⟨h,hh,l,hl,hv⟩:=hv
  split at hv
  ·rename_i dE
   simp at hv;subst hv
   obtain⟨A,c,he,c1,c2,h3⟩:=xz hr
   obtain⟨q,q1,q2⟩:=nG (w:=w) (isS:=true) (cap:=c) E kD Dh hh hl c1
   refine⟨_,go _ _ _ _ _ he q,.eP _ _ ?_⟩
   have hlen:((rows.drop l).take (h-l)).length=h-l:=by simp;omega
   by_cases hz:h-l=0
   ·have:(rows.drop l).take (h-l)=[]:=by rw[hz];simp
    rw[this,hz]
    exact .Bp _ _ (by omega)
   ·rcases h3 with h3|⟨b,oo,sz,vs,rfl,hD,Lf,fl,hc,hi⟩
    ·subst h3;simp at q2;omega
    rw[if_neg (by omega)]
    simp only[Option.map_some,kr]
    have Cc:sz=m:=by
     have dY:l<rows.length:=by omega
     have:=dE rows[l] (List.getElem_mem dY)
     rw[<-this,Lf _ (List.getElem_mem dY)]
    subst Cc
    refine .sl _ b _ _ _ sz (fun i j=>vs (l+i) j) hlen (by omega) (by omega) hD (fun cs dx=>Lf cs (List.mem_of_mem_drop (List.mem_of_mem_take dx))) (fun cs dx=>fl cs (List.mem_of_mem_drop (List.mem_of_mem_take dx))) (fun i j hi hj=>?_) (fun i j cs a dx ha=>?_)
    ·rw[<-hc (l+i) j (by omega) hj,Nat.add_mul]
     congr 2;omega
    ·rw[List.getElem?_take]at dx
     split at dx
     ·exact hi _ _ _ _ (by simpa using dx) ha
     ·simp at dx
  ·simp at hv
 ·rename_i kb off len hb
  rw[hb]at hr
  simp only[Option.bind_eq_some_iff,Option.map_eq_some_iff]at hv
  obtain⟨r,Dg,h,hh,l,hl,hv⟩:=hv
  split at hv
  ·rename_i zb
   simp at hv;subst hv
   obtain⟨oo,cap,B,he,hB,h1,h2,h3,h4,hk⟩:=jb hr
   obtain⟨B',dD,R,_,_⟩:=S.row _ _ Dg
   rw[hB]at dD;injection dD with dD;subst dD
   replace R:=R.row hk
   have fw:B.sz=m:=R.sz.trans zb
   obtain⟨q,q1,q2⟩:=nG (w:=w) (isS:=true) (cap:=cap) E kD Dh hh hl h1
   refine⟨_,go _ _ _ _ _ he q,?_⟩
   have e1:(off+l+(cap-l))*B.sz<=B.C:=by rw[show off+l+(cap-l)=off+cap by omega];exact h3
   by_cases nz:cap=l
   ·rw[if_pos nz]
    exact .own _ _ _ _ _ B hB hk (by omega) (.inl (by omega)) e1 (by omega)
   ·rw[if_neg nz]
    simp only[Option.map_some,kr]
    have Dd:oo=off*B.sz:=by rcases h2 with h2|h2<;>omega
    exact .own _ _ _ _ _ B hB hk (by omega) (.inr (by rw[Dd,fw,Nat.add_mul])) e1 (by omega)
  ·simp at hv
 ·simp at hv
theorem KY {x:Operand} {x':O} {lo hi:Option Operand} {NG rN:Option O} {t:TypeId} (E:cu P w D ι env a) (ho:o.op=.slice t x lo hi none) (ht:P.underlying t=some .string) (hx:cO P x=some x') (kD:r5 P lo=some NG) (Dh:r5 P hi=some rN)
  (hv:bd (cU env x') (NG.map (cU env)) (rN.map (cU env))=some v):oX P a o w D ι v:=by
 have hr:=dp E hx
 unfold bd at hv
 split at hv
 ·rename_i s hb
  rw[hb]at hr
  simp only[Option.bind_eq_some_iff,Option.map_eq_some_iff]at hv
  obtain⟨h,hh,l,hl,rfl⟩:=hv
  obtain⟨q,_,_⟩:=nG (w:=w) (isS:=false) E kD Dh hh hl (Nat.le_refl _)
  refine⟨_,?_,.eP _ _ (.str _)⟩
  simp only[execOp,ho,fH hr,Instr.sliceAt,Instr.slice,Sem.run_bind,Sem.run_pure,run_underlying ht,Result.andThen_ok,Option.map_none,Option.isSome_none,Bool.false_eq_true,if_false,q]
 ·simp at hv
theorem EF {xs:List Operand} {ys:List O} (E:cu P w D ι env a) (h:xs.mapM (cO P)=some ys):(xs.map a.eval).length=ys.length/\∀j y,ys[j]? =some y->cL P w D ι (cU env y) ((xs.map a.eval).getD j undef):=by
 induction xs generalizing ys with
 |nil=>simp at h;subst h;simp
 |cons x r ih=>
  simp only[List.mapM_cons,Option.bind_eq_bind,Option.bind_eq_some_iff]at h
  obtain⟨c,hc,qz,dx,h⟩:=h
  simp at h;subst h
  obtain⟨h1,h2⟩:=ih dx
  refine⟨by simpa using h1,fun j d hd=>?_⟩
  cases j with
  |zero=>simp at hd ⊢;subst hd;exact dp E hc
  |succ j=>simp at hd ⊢;simpa using h2 j d hd
theorem P6 {f:Nat} {first cQ:Array Operand} {BL:List O} (E:cu P w D ι env a) (ho:o.op=.makeFunc (.func f) first cQ) (hf:first= #[]) (hc:fP P f=true) (hx:cQ.toList.mapM (cO P)=some BL):oX P a o w D ι (.fn f (BL.map (cU env))):=by
 subst hf
 obtain⟨h1,h2⟩:=EF E hx
 refine⟨.func (.func f) #[] (cQ.map a.eval),by simp only[execOp,ho,Instr.makeFunc,Sem.run_bind,Sem.run_pure,Result.andThen_ok];simp,.fn _ _ _ (fun j=>(cQ.toList.map a.eval).getD j undef) hc (by simpa using h1) (fun j hj=>?_) (fun j x QB=>?_)⟩
 ·simp at hj h1
  have:j<cQ.size:=by omega
  simp[this]
 ·simp only[List.getElem?_map,Option.map_eq_some_iff]at QB
  obtain⟨y,hy,rfl⟩:=QB
  exact h2 j y hy
theorem P7 {f:Nat} {first cQ:Array Operand} {BL:List O} (E:cu P w D ι env a) (ho:o.op=.makeFunc (.func f) first cQ) (hf:cQ= #[]) (hc:fP P f=true) (hx:first.toList.mapM (cO P)=some BL):oX P a o w D ι (.uG f (BL.map (cU env))):=by
 subst hf
 obtain⟨h1,h2⟩:=EF E hx
 refine⟨.func (.func f) (first.map a.eval) #[],by simp only[execOp,ho,Instr.makeFunc,Sem.run_bind,Sem.run_pure,Result.andThen_ok];simp,.uG _ _ _ (fun j=>(first.toList.map a.eval).getD j undef) hc (by simpa using h1) (fun j hj=>?_) (fun j x QB=>?_)⟩
 ·simp at hj h1
  have:j<first.size:=by omega
  simp[this]
 ·simp only[List.getElem?_map,Option.map_eq_some_iff]at QB
  obtain⟨y,hy,rfl⟩:=QB
  exact h2 j y hy
end
end Go.Proofs.YtgoljkjaameagaaGreat.V

namespace Go.Proofs.YtgoljkjaameagaaGreat.V
open Go.RowKit
variable {P:Program} {w w':World} {D D':Nat->Prop} {ι ι':Names}
def Mk (P:Program) (a:Act) (o:Oper) (w:World) (D:Nat->Prop) (ι:Names) (id:Id) (v:AV) (r:Row):Prop:=
 ∃u cells T,(execOp a.eval o).run P w=.ok (.value u) (w.alloc (.cells cells T))/\r.w=true/\r.rows.length*r.sz<=cells.size/\(∀cs∈r.rows,cs.length=r.sz)/\(∀cs∈r.rows,∀a∈cs,a.cell=true)/\
  (∀i j cs a,r.rows[i]? =some cs->cs[j]? =some a->∃x,cells[i*r.sz+j]? =some x/\cL P w D ι a x)/\∀ι':Names,ι' id=some ⟨w.heap.size,r.sz,cells.size,none⟩->cL P w D ι' v u
section
variable {g:Rows} {hs:Nat} {env:Env} {a:Act} {o:Oper} {id:Id} {v:AV}
theorem kL {vs:List Value} {cs:List K} (h:vs.mapM G2=some cs):fu P w D ι (cs.map K.av) vs.toArray:=by
 obtain⟨h1,h2⟩:=sD h
 refine⟨by simp[h1],fun j a ha=>?_⟩
 simp only[List.getElem?_map,Option.map_eq_some_iff]at ha
 obtain⟨c,hc,rfl⟩:=ha
 exact⟨c.val,by simpa using h2 j c hc,xw c⟩
theorem j8 {t:TypeId} {z:List K} (h:jO P t=some z):∃i v,P.info? t=some i/\i.zero=some v/\v.cells.size=i.size/\v.cells.toList.mapM G2=some z/\z.length=i.size:=by
 unfold jO at h
 split at h
 ·rename_i i hi
  split at h
  ·rename_i v hv
   split at h
   ·rename_i hs
    exact⟨i,v,hi,hv,hs,h,by rw[(sD h).1];simpa using hs⟩
   ·simp at h
  ·simp at h
 ·simp at h
theorem F0 {cs:List AV} {cells:Array Value} (h:fu P w D ι cs cells):∀i j c a,[cs][i]? =some c->c[j]? =some a->∃x,cells[i*cs.length+j]? =some x/\cL P w D ι a x:=by
 intro i j c a hi hj
 cases i with
 |zero=>simp at hi;subst hi;simpa using h.2 j a hj
 |succ i=>simp at hi
theorem Sa {t:TypeId} {z:List K} (ho:o.op=.alloc t) (hz:jO P t=some z):Mk P a o w D ι id (.ptr id 0 0) ⟨true,z.length,[z.map K.av]⟩:=by
 obtain⟨i,v,hi,hv,hs,hm,hl⟩:=j8 hz
 have hk:=kL (P:=P) (w:=w) (D:=D) (ι:=ι) hm
 refine⟨.pointer (some ⟨w.heap.size,0,none⟩),v.cells,t,?_,rfl,?_,?_,?_,?_,?_⟩
 ·simp only[execOp,ho,Instr.alloc,zeroValue,typeInfo,Sem.run_bind]
  simp[hi,hv,newVar,newRow]
 ·simp[hl,hs]
 ·intro cs dx;simp at dx;subst dx;simp
 ·intro cs dx x hx;simp at dx;subst dx
  obtain⟨c,_,rfl⟩:=List.mem_map.1 hx;exact c.nu
 ·have:=F0 hk;simpa using this
 ·intro ι' hι
  have:=cL.ptr (P:=P) (w:=w) (D:=D) (ι:=ι') id 0 0 _ hι rfl
  simpa using this
theorem rH {x:AV} {u:Value} (h:cL P w D ι x u) (hc:x.cells.all AV.cell=true):fu P w D ι x.cells u.cells:=by
 obtain⟨h1,f,h2,h3⟩:=h.cells hc
 exact⟨h1,fun j a ha=>⟨f j,h2 j (List.getElem?_eq_some_iff.1 ha).1,h3 j a ha⟩⟩
theorem R8 {t:TypeId} {x:Operand} {x':O} {cs:List AV} (E:cu P w D ι env a) (ho:o.op=.box t x) (hx:cO P x=some x') (hb:cR (cU env x')=some cs):Mk P a o w D ι id (.ptr id 0 0) ⟨true,cs.length,[cs]⟩:=by
 have hr:=dp E hx
 unfold cR at hb
 split at hb
 ·rename_i dE
  simp at hb;subst hb
  have hk:=rH hr dE
  refine⟨.pointer (some ⟨w.heap.size,0,none⟩),(a.eval x).cells,t,?_,rfl,?_,?_,?_,?_,?_⟩
  ·simp only[execOp,ho,Instr.box,Sem.run_bind]
   simp[newVar,newRow]
  ·simp[hk.1]
  ·intro cs dx;simp at dx;subst dx;rfl
  ·intro cs dx y hy;simp at dx;subst dx
   exact List.all_eq_true.1 dE y hy
  ·exact F0 hk
  ·intro ι' hι
   have:=cL.ptr (P:=P) (w:=w) (D:=D) (ι:=ι') id 0 0 _ hι rfl
   simpa using this
 ·simp at hb
theorem foldl_set:∀(vs:List Value) (n off:Nat) (cells:Array Value),off+n+vs.length<=cells.size->((vs.zipIdx n).foldl (fun cs (x:Value×Nat)=>cs.setIfInBounds (off+x.2) x.1) cells).size=cells.size/\
  ∀k,((vs.zipIdx n).foldl (fun cs (x:Value×Nat)=>cs.setIfInBounds (off+x.2) x.1) cells)[k]? =if off+n<=k/\k<off+n+vs.length then vs[k-(off+n)]? else cells[k]?
 |[],n,off,cells,_=>⟨rfl,fun k=>by simp;intro h1 h2;omega⟩
 |v::r,n,off,cells,h=>by
  simp only[List.length_cons]at h
  obtain⟨h1,h2⟩:=foldl_set r (n+1) off (cells.setIfInBounds (off+n) v) (by simp;omega)
  simp only[List.zipIdx_cons,List.foldl_cons]
  refine⟨by rw[h1];simp,fun k=>?_⟩
  rw[h2 k]
  simp only[List.length_cons]
  by_cases hk:k=off+n
  ·subst hk
   rw[if_neg (by omega),if_pos (by omega)]
   simp[show off+n<cells.size by omega]
  ·by_cases wY:off+n<=k/\k<off+n+(r.length+1)
   ·rw[if_pos (by omega),if_pos wY]
    have:k-(off+n)=(k-(off+(n+1)))+1:=by omega
    rw[this,List.getElem?_cons_succ]
   ·rw[if_neg (by omega),if_neg wY,Array.getElem?_setIfInBounds_ne (by omega)]
theorem wK (place:Nat->Option (Nat×Nat)):∀(ps:List (Nat×Value)) (qs:List (Nat×Nat×AV)) (cells:Array Value) (cs res:List AV),fu P w D ι cs cells->(∀a∈cs,a.cell=true)->ps.length=qs.length->
  (∀(k:Nat) i u o' n x,ps[k]? =some (i,u)->qs[k]? =some (o',n,x)->place i=some (o',n)/\cL P w D ι x u)->cJ cs qs=some res->∃ju,Instr.fill place cells ps=some ju/\fu P w D ι res ju/\(∀a∈res,a.cell=true)/\res.length=cs.length:=by
 intro ps
 induction ps with
 |nil=>
  intro qs cells cs res hR hf hl _ hv
  cases qs with
  |nil=>simp[cJ]at hv;subst hv;exact⟨cells,rfl,hR,hf,rfl⟩
  |cons q r=>simp at hl
 |cons p ps ih=>
  intro qs cells cs res hR hf hl hp hv
  cases qs with
  |nil=>simp at hl
  |cons q qs=>
   obtain⟨i,u⟩:=p
   obtain⟨oo,n,x⟩:=q
   obtain⟨mD,hr⟩:=hp 0 i u oo n x rfl rfl
   unfold cJ at hv
   split at hv
   ·rename_i hc
    obtain⟨c1,c2,c3⟩:=hc
    have hk:=rH hr c3
    have hus:u.cells.size=n:=by rw[hk.1,c1]
    have dx:cells.size=cs.length:=hR.1
    unfold Instr.fill
    simp only[mD]
    rw[if_neg (by rw[hus,dx];simp;omega)]
    obtain⟨s1,s2⟩:=foldl_set u.cells.toList 0 oo cells (by simp;omega)
    have e0:(u.cells.zipIdx.foldl (fun cs (x:Value×Nat)=>cs.setIfInBounds (oo+x.2) x.1) cells)=(u.cells.toList.zipIdx 0).foldl (fun cs (x:Value×Nat)=>cs.setIfInBounds (oo+x.2) x.1) cells:=by
     rw[<-Array.foldl_toList];simp
    have si:=ih qs (u.cells.zipIdx.foldl (fun cs (x:Value×Nat)=>cs.setIfInBounds (oo+x.2) x.1) cells) (cs.take oo++x.cells++cs.drop (oo+n)) res ?_ ?_ (by simpa using hl) (fun k i u o' n x h1 h2=>hp (k+1) i u o' n x (by simpa using h1) (by simpa using h2)) hv
    ·obtain⟨ju,h1,h2,h3,h4⟩:=si
     refine⟨ju,h1,h2,h3,?_⟩
     rw[h4];simp;omega
    ·rw[e0]
     refine⟨by rw[s1,dx];simp;omega,fun j a ha=>?_⟩
     rw[s2 j]
     simp only[Nat.add_zero,Array.length_toList]
     by_cases hj:oo<=j/\j<oo+u.cells.size
     ·rw[if_pos hj]
      rw[List.append_assoc,List.getElem?_append_right (by simp;omega),List.getElem?_append_left (by simp;omega)]at ha
      simp only[List.length_take]at ha
      rw[show min oo cs.length=oo by omega]at ha
      simpa using hk.2 _ _ ha
     ·rw[if_neg hj]
      by_cases UZ:j<oo
      ·rw[List.append_assoc,List.getElem?_append_left (by simp;omega),List.getElem?_take,if_pos UZ]at ha
       exact hR.2 _ _ ha
      ·rw[List.getElem?_append_right (by simp;omega)]at ha
       simp only[List.length_append,List.length_take,List.getElem?_drop]at ha
       rw[show oo+n+(j-(min oo cs.length+x.cells.length))=j by omega]at ha
       exact hR.2 _ _ ha
    ·intro b hb
     rcases List.mem_append.1 hb with hb|hb
     ·rcases List.mem_append.1 hb with hb|hb
      ·exact hf b (List.mem_of_mem_take hb)
      ·exact List.all_eq_true.1 c3 b hb
     ·exact hf b (List.mem_of_mem_drop hb)
   ·simp at hv
theorem yk {fs:List Field} (h:∀f∈fs,(P.info? f.type).isSome=true):∃AG,fs.mapM (fun f=>(P.info? f.type).map fun i=>(f.offset,i.size))=some AG/\∀(i:Nat) (f:Field) (n:Nat),fs[i]? =some f->ec P f.type=some n->AG[i]? =some (f.offset,n):=by
 induction fs with
 |nil=>exact⟨[],rfl,fun i f n h=>by simp at h⟩
 |cons f r ih=>
  obtain⟨q,h1,h2⟩:=ih (fun x hx=>h x (List.mem_cons_of_mem _ hx))
  obtain⟨i,hi⟩:=Option.isSome_iff_exists.1 (h f (by simp))
  refine⟨(f.offset,i.size)::q,by simp[hi,h1],fun k x n hk hn=>?_⟩
  cases k with
  |zero=>simp at hk;subst hk;simp[ec,hi]at hn;subst hn;rfl
  |succ k=>simp at hk ⊢;exact h2 k x n hk hn
theorem qM {ps:List (Nat×Operand)} {l:List (Nat×O)} (E:cu P w D ι env a) (h:ps.mapM (fun(x:Nat×Operand)=>(cO P x.2).map (x.1,·))=some l):l.length=ps.length/\∀(k i:Nat) (y:O),l[k]? =some (i,y)->∃x,ps[k]? =some (i,x)/\cO P x=some y:=by
 induction ps generalizing l with
 |nil=>simp at h;subst h;simp
 |cons p r ih=>
  simp only[List.mapM_cons,Option.bind_eq_bind,Option.bind_eq_some_iff]at h
  obtain⟨c,hc,qz,dx,h⟩:=h
  simp at h;subst h
  obtain⟨h1,h2⟩:=ih dx
  simp only[Option.map_eq_some_iff]at hc
  obtain⟨y,hy,rfl⟩:=hc
  refine⟨by simp[h1],fun k i z hk=>?_⟩
  cases k with
  |zero=>simp at hk;obtain⟨rfl,rfl⟩:=hk;exact⟨p.2,rfl,hy⟩
  |succ k=>simp at hk ⊢;exact h2 k i z hk
theorem DE {fs:Array Field} {l:List (Nat×O)} {q:List (Nat×Nat×O)} (h:tj P fs l=some q):q.length=l.length/\∀(k oo n:Nat) (y:O),q[k]? =some (oo,n,y)->∃(i:Nat) (f:Field),l[k]? =some (i,y)/\fs[i]? =some f/\f.offset=oo/\ec P f.type=some n:=by
 induction l generalizing q with
 |nil=>simp[tj]at h;subst h;simp
 |cons p r ih=>
  obtain⟨i,x⟩:=p
  unfold tj at h
  split at h
  ·rename_i f hf
   split at h
   ·rename_i n hn
    simp only[Option.map_eq_some_iff]at h
    obtain⟨q',L7,rfl⟩:=h
    obtain⟨h1,h2⟩:=ih L7
    refine⟨by simp[h1],fun k oo m y hk=>?_⟩
    cases k with
    |zero=>simp at hk;obtain⟨rfl,rfl,rfl⟩:=hk;exact⟨i,f,rfl,hf,rfl,hn⟩
    |succ k=>simp only[List.getElem?_cons_succ]at hk ⊢;exact h2 k oo m y hk
   ·simp at h
  ·simp at h
theorem fu.agg {xs:List AV} {vs:Array Value} (h:fu P w D ι xs vs) (hf:∀a∈xs,a.cell=true):cL P w D ι (.agg xs) (.agg vs):=
 .agg xs vs (fun j=>vs.getD j undef) h.1 hf (fun j hj=>by
  have:j<vs.size:=by rw[h.1];exact hj
  simp[this]) (fun j a ha=>by
  obtain⟨u,h1,h2⟩:=h.2 j a ha
  simpa[Array.getD_eq_getD_getElem?,h1]using h2)
theorem M0 {t:TypeId} {ps:Array (Nat×Operand)} {fs:Array Field} {z:List K} {l:List (Nat×O)} {q:List (Nat×Nat×O)} {cs:List AV} (E:cu P w D ι env a) (ho:o.op=.build t ps) (ht:P.underlying t=some (.struct fs)) (hz:jO P t=some z) (hl:tp P ps=some l)
  (sg:∀f∈fs.toList,(P.info? f.type).isSome=true) (hq:tj P fs l=some q) (hv:cJ (z.map K.av) (q.map fun(o,n,x)=>(o,n,cU env x))=some cs):oX P a o w D ι (.agg cs):=by
 obtain⟨it,zv,hi,qE,hs,hm,FR⟩:=j8 hz
 obtain⟨AG,mD,Vn⟩:=yk sg
 have hk:=kL (P:=P) (w:=w) (D:=D) (ι:=ι) hm
 obtain⟨n1,r1⟩:=qM E hl
 obtain⟨n2,r2⟩:=DE hq
 obtain⟨ju,h1,h2,h3,_⟩:=wK (P:=P) (w:=w) (D:=D) (ι:=ι) (AG.toArray[·]?) (ps.toList.map fun(i,x)=>(i,a.eval x)) (q.map fun(o,n,x)=>(o,n,cU env x)) zv.cells _ cs (by simpa using hk)
  (fun b hb=>by obtain⟨c,_,rfl⟩:=List.mem_map.1 hb;exact c.nu) (by simp[n2,n1]) (fun k i u o' n x xY wY=>by
   simp only[List.getElem?_map,Option.map_eq_some_iff]at xY wY
   obtain⟨⟨i',x'⟩,hp,e1⟩:=xY
   obtain⟨⟨o2,n',y⟩,L7,e2⟩:=wY
   simp only[Prod.mk.injEq]at e1 e2
   obtain⟨rfl,rfl⟩:=e1
   obtain⟨rfl,rfl,rfl⟩:=e2
   obtain⟨i2,f,Jj,hf,rfl,hn⟩:=r2 _ _ _ _ L7
   obtain⟨x2,ze,hc⟩:=r1 _ _ _ Jj
   rw[hp]at ze
   simp only[Option.some.injEq,Prod.mk.injEq]at ze
   obtain⟨rfl,rfl⟩:=ze
   exact⟨by simpa using Vn _ _ _ (by simpa using hf) hn,dp E hc⟩) hv
 refine⟨.agg ju,?_,h2.agg h3⟩
 have hb:P.built t ((ps.map fun(i,x)=>(i,a.eval x)).toList)=some ju:=by
  unfold Program.built
  simp only[hi,ht,qE,mD]
  simpa using h1
 simp only[execOp,ho,Sem.run_bind,run_build w t _ _ hb,Result.andThen_ok,Sem.run_pure]
theorem KX {t e:TypeId} {len n:Nat} {ps:Array (Nat×Operand)} {z:List K} {l:List (Nat×O)} {cs:List AV} (E:cu P w D ι env a) (ho:o.op=.build t ps) (ht:P.underlying t=some (.array len e)) (hz:jO P t=some z) (hl:tp P ps=some l) (hn:ec P e=some n)
  (hv:cJ (z.map K.av) ((l.map fun(x:Nat×O)=>(x.1*n,n,x.2)).map fun(o,n,x)=>(o,n,cU env x))=some cs):oX P a o w D ι (.agg cs):=by
 obtain⟨it,zv,hi,qE,hs,hm,FR⟩:=j8 hz
 have hk:=kL (P:=P) (w:=w) (D:=D) (ι:=ι) hm
 obtain⟨n1,r1⟩:=qM E hl
 obtain⟨ie,HX,fw⟩:∃ie,P.info? e=some ie/\ie.size=n:=by simpa[ec]using hn
 obtain⟨ju,h1,h2,h3,_⟩:=wK (P:=P) (w:=w) (D:=D) (ι:=ι) (fun i=>some (i*ie.size,ie.size)) (ps.toList.map fun(i,x)=>(i,a.eval x)) ((l.map fun(x:Nat×O)=>(x.1*n,n,x.2)).map fun(o,n,x)=>(o,n,cU env x)) zv.cells _ cs (by simpa using hk)
  (fun b hb=>by obtain⟨c,_,rfl⟩:=List.mem_map.1 hb;exact c.nu) (by simp[n1]) (fun k i u o' n' x xY wY=>by
   simp only[List.getElem?_map,Option.map_eq_some_iff]at xY wY
   obtain⟨⟨i',x'⟩,hp,e1⟩:=xY
   obtain⟨⟨o2,n2,y⟩,⟨⟨i2,y2⟩,Jj,e3⟩,e2⟩:=wY
   simp only[Prod.mk.injEq]at e1 e2 e3
   obtain⟨rfl,rfl⟩:=e1
   obtain⟨rfl,rfl,rfl⟩:=e2
   obtain⟨rfl,rfl,rfl⟩:=e3
   obtain⟨x2,ze,hc⟩:=r1 _ _ _ Jj
   rw[hp]at ze
   simp only[Option.some.injEq,Prod.mk.injEq]at ze
   obtain⟨rfl,rfl⟩:=ze
   exact⟨by rw[fw],dp E hc⟩) hv
 refine⟨.agg ju,?_,h2.agg h3⟩
 have hb:P.built t ((ps.map fun(i,x)=>(i,a.eval x)).toList)=some ju:=by
  unfold Program.built
  simp only[hi,ht,qE,HX]
  simpa using h1
 simp only[execOp,ho,Sem.run_bind,run_build w t _ _ hb,Result.andThen_ok,Sem.run_pure]
theorem wJ:∀(vs:List AV) (sz i:Nat) (rs:List (List AV)) (cs:List AV),0<sz->cs.length=(i+vs.length)*sz->rowsOf sz vs=some rs->
  cJ cs ((vs.zipIdx i).map fun(v,j)=>(j*sz,sz,v))=some (cs.take (i*sz)++rs.flatten)/\rs.length=vs.length/\(∀c∈rs,c.length=sz)/\∀c∈rs,∀x∈c,x.cell=true
 |[],sz,i,rs,cs,_,hl,h=>by
  simp[rowsOf]at h;subst h
  simp at hl
  simp[cJ,List.take_of_length_le (show cs.length<=i*sz by omega)]
 |v::r,sz,i,rs,cs,fw,hl,h=>by
  simp only[rowsOf,Option.bind_eq_some_iff,Option.map_eq_some_iff]at h
  obtain⟨c,hc,rs',zb,rfl⟩:=h
  unfold rowOf at hc
  split at hc
  ·rename_i Ah
   simp at hc;subst hc
   obtain⟨qD,GL⟩:=Ah
   simp only[List.length_cons]at hl
   have hmul:(i+(r.length+1))*sz=i*sz+sz+r.length*sz:=by rw[Nat.add_mul,Nat.add_mul];omega
   have ih:=wJ r sz (i+1) rs' (cs.take (i*sz)++v.cells++cs.drop (i*sz+sz)) fw (by
    simp[qD];rw[Nat.add_mul,Nat.add_mul];omega) zb
   refine⟨?_,by simp[ih.2.1],?_,?_⟩
   ·simp only[List.zipIdx_cons,List.map_cons,cJ]
    rw[if_pos ⟨qD,by omega,GL⟩,ih.1]
    congr 1
    rw[List.flatten_cons,<-List.append_assoc]
    congr 1
    rw[Nat.add_mul,Nat.one_mul,List.take_append_of_le_length (by simp[qD];omega)]
    rw[List.take_of_length_le (by simp[qD];omega)]
   ·intro c' k8;rcases List.mem_cons.1 k8 with rfl|k8
    ·exact qD
    ·exact ih.2.2.1 c' k8
   ·intro c' k8;rcases List.mem_cons.1 k8 with rfl|k8
    ·exact List.all_eq_true.1 GL
    ·exact ih.2.2.2 c' k8
  ·simp at hc
theorem flat_get {α:Type} {pb:List (List α)} {sz:Nat} (h:∀cs∈pb,cs.length=sz) {i j:Nat} {cs:List α} {a:α} (hi:pb[i]? =some cs) (hj:cs[j]? =some a):pb.flatten[i*sz+j]? =some a:=by
 induction pb generalizing i with
 |nil=>simp at hi
 |cons c r ih=>
  have hc:c.length=sz:=h c (by simp)
  cases i with
  |zero=>
   simp at hi;subst hi
   have dY:=(List.getElem?_eq_some_iff.1 hj).1
   rw[List.flatten_cons,List.getElem?_append_left (by omega)];simpa using hj
  |succ i=>
   rw[List.flatten_cons,List.getElem?_append_right (by rw[hc,Nat.succ_mul];omega)]
   have:(i+1)*sz+j-c.length=i*sz+j:=by rw[hc,Nat.succ_mul];omega
   rw[this]
   exact ih (fun cs dx=>h cs (List.mem_cons_of_mem _ dx)) (by simpa using hi)
theorem IW {α:Type} {pb:List (List α)} {sz:Nat} (h:∀cs∈pb,cs.length=sz):pb.flatten.length=pb.length*sz:=by
 induction pb with
 |nil=>simp
 |cons c r ih=>
  rw[List.flatten_cons,List.length_append,h c (by simp),ih (fun cs dx=>h cs (List.mem_cons_of_mem _ dx)),List.length_cons,Nat.succ_mul];omega
theorem pU {zv:Value} {z:List K} {n:Nat} (hm:zv.cells.toList.mapM G2=some z) (kF:0<z.length):∀k,k<n->∃c,z[k % z.length]? =some c/\((Array.range n).map (zv.cells[· % zv.cells.size]!))[k]? =some c.val:=by
 intro k hk
 obtain⟨h1,h2⟩:=sD hm
 have fw:zv.cells.size=z.length:=by simpa using h1.symm
 have dY:k % z.length<z.length:=Nat.mod_lt _ kF
 refine⟨z[k % z.length],List.getElem?_eq_getElem dY,?_⟩
 have h3:=h2 _ _ (List.getElem?_eq_getElem dY)
 simp only[Array.getElem?_toList]at h3
 have Cb:k % z.length<zv.cells.size:=by rw[fw];exact dY
 rw[Array.getElem?_map,Array.getElem?_range,if_pos hk]
 simp only[Option.map_some]
 rw[fw,getElem!_pos zv.cells (k % z.length) Cb]
 rw[Array.getElem?_eq_getElem Cb]at h3
 exact h3
theorem JS {t e:TypeId} {len sz:Nat} {ps:Array (Nat×Operand)} {z:List K} {l:List (Nat×O)} {rs:List (List AV)} (E:cu P w D ι env a) (ho:o.op=.buildSlice t len ps) (ht:P.underlying t=some (.slice e)) (fw:ec P e=some (sz+1)) (hz:jO P e=some z)
  (hl:tp P ps=some l) (L8:len*(sz+1)<=4096) (RL:l.map (·.1)=List.range len) (hv:rowsOf (sz+1) (l.map fun x=>cU env x.2)=some rs):Mk P a o w D ι id (.own id 0 len) ⟨true,sz+1,rs⟩:=by
 obtain⟨it,zv,hi,qE,hs,hm,FR⟩:=j8 hz
 have jI:it.size=sz+1:=by simpa[ec,hi]using fw
 obtain⟨n1,r1⟩:=qM E hl
 have FJ:l.length=len:=by have:=congrArg List.length RL;simpa using this
 by_cases h0:len=0
 ·subst h0
  have Nu:l=[]:=List.length_eq_zero_iff.1 FJ
  subst Nu
  simp[rowsOf]at hv;subst hv
  have Tp:ps= #[]:=by
   apply Array.ext';apply List.eq_nil_of_length_eq_zero;rw[<-n1];rfl
  subst Tp
  refine⟨.slice (some ⟨w.heap.size,0,none⟩) 0 0, #[],e,?_,rfl,by simp,by simp,by simp,fun i j cs x hi=>by simp at hi,fun ι' hι=>?_⟩
  ·simp[execOp,ho,Instr.buildSlice,run_underlying ht,sizeOf,typeInfo,hi,Instr.fill,newRow,Array.range_zero']
  ·exact .own _ 0 0 0 0 _ hι rfl (Nat.le_refl _) (.inl rfl) (by simp) (by simp[maxLen])
 ·have zf:fu P w D ι ((List.range (len*(sz+1))).map fun k=>(z.getD (k % z.length) .cC).av) ((Array.range (len*(sz+1))).map (zv.cells[· % zv.cells.size]!)):=by
   refine⟨by simp,fun j x hx=>?_⟩
   simp only[List.getElem?_map,Option.map_eq_some_iff]at hx
   obtain⟨k,hk,rfl⟩:=hx
   have mC:=(List.getElem?_eq_some_iff.1 hk).1
   simp at mC
   rw[List.getElem?_range mC]at hk
   injection hk with hk
   subst hk
   obtain⟨c,hc,S8⟩:=pU hm (by rw[FR,jI];omega) j mC
   exact⟨c.val,S8,by rw[List.getD_eq_getElem?_getD,hc];exact xw c⟩
  obtain⟨f1,f2,f3,f4⟩:=wJ (l.map fun x=>cU env x.2) (sz+1) 0 rs ((List.range (len*(sz+1))).map fun k=>(z.getD (k % z.length) .cC).av) (by omega) (by simp[FJ]) hv
  obtain⟨ju,h1,h2,h3,h4⟩:=wK (P:=P) (w:=w) (D:=D) (ι:=ι) (fun i=>some (i*it.size,it.size)) (ps.toList.map fun(i,x)=>(i,a.eval x)) _ _ _ _ zf
   (fun b hb=>by obtain⟨c,_,rfl⟩:=List.mem_map.1 hb;exact K.nu _) (by simp[n1]) (fun k i u o' n x xY wY=>by
   simp only[List.getElem?_map,Option.map_eq_some_iff]at xY wY
   obtain⟨⟨i',x'⟩,hp,e1⟩:=xY
   obtain⟨⟨v2,j2⟩,L7,e2⟩:=wY
   simp only[Prod.mk.injEq]at e1 e2
   obtain⟨rfl,rfl⟩:=e1
   obtain⟨rfl,rfl,rfl⟩:=e2
   rw[List.getElem?_zipIdx]at L7
   simp only[List.getElem?_map,Option.map_map,Option.map_eq_some_iff,Function.comp_apply,Prod.mk.injEq,Nat.zero_add]at L7
   obtain⟨⟨i2,y⟩,Jj,rfl,rfl⟩:=L7
   obtain⟨x2,ze,hc⟩:=r1 _ _ _ Jj
   rw[hp]at ze
   simp only[Option.some.injEq,Prod.mk.injEq]at ze
   obtain⟨rfl,rfl⟩:=ze
   have y8:(l.map (·.1))[k]? =some i':=by rw[List.getElem?_map,Jj];rfl
   have mC:=(List.getElem?_eq_some_iff.1 y8).1
   rw[RL]at y8
   simp at mC
   rw[List.getElem?_range (by omega)]at y8
   injection y8 with y8
   subst y8
   exact⟨by rw[jI],dp E hc⟩) f1
  simp only[Nat.zero_mul,List.take_zero,List.nil_append,List.length_map]at h2 h3 h4 f2
  have dx:ju.size=len*(sz+1):=by rw[h2.1,h4];simp
  refine⟨.slice (some ⟨w.heap.size,0,none⟩) len len,ju,e,?_,rfl,?_,f3,f4,fun i j cs x rN hj=>h2.2 _ _ (flat_get f3 rN hj),fun ι' hι=>?_⟩
  ·have gm:=run_buildSlice (P:=P) w t e len (ps.map fun(i,x)=>(i,a.eval x)) ju it zv ht hi qE (by rw[jI];omega) (by rw[jI];exact Nat.mul_ne_zero h0 (by omega)) (by rw[<-jI]at h1;simpa using h1)
   simp only[execOp,ho,Sem.run_bind,gm,Result.andThen_ok,Sem.run_pure]
  ·dsimp only;rw[f2,FJ,dx];exact Nat.le_refl _
  ·refine .own _ 0 len 0 len _ hι rfl (Nat.le_refl _) (.inr (by simp)) ?_ (by simp only[maxLen];have:=Nat.le_mul_of_pos_right len (show 0<sz+1 by omega);omega)
   dsimp only;rw[dx];simp
theorem Hb {t e:TypeId} {it:TypeInfo} {m:Nat} {z:List K} {l c:Operand} {l' c':O} {n:Nat} {r:Row} (E:cu P w D ι env a) (ho:o.op=.makeSlice t l c) (ht:P.underlying t=some (.slice e)) (fw:ec P e=some (m+1)) (hz:jO P e=some z) (LU:P.info? e=some it) (hby:it.bytes<=32768)
  (hl:cO P l=some l') (hc:cO P c=some c') (hv:iq z (cU env l') (cU env c')=some (n,r)):Mk P a o w D ι id (.own id 0 n) r:=by
 obtain⟨it',zv,hi,qE,hs,hm,FR⟩:=j8 hz
 rw[LU]at hi;injection hi with hi;subst hi
 have jI:it.size=m+1:=by simpa[ec,LU]using fw
 unfold iq at hv
 split at hv
 ·rename_i k1 ln k2 cn e1 e2
  split at hv
  ·rename_i hb
   obtain⟨b1,b2,b3⟩:=hb
   simp at hv
   obtain⟨rfl,rfl⟩:=hv
   have r1:=du (e1▸dp E hl)
   have r2:=du (e2▸dp E hc)
   unfold dH at b3
   have Nn:(it.bytes:Int)*cn<=281474976710656:=by
    have h1:(it.bytes:Int)<=32768:=by omega
    have h2:(it.bytes:Int)*cn<=32768*16777216:=Int.mul_le_mul h1 (by omega) (by omega) (by omega)
    omega
   have gm:=run_make (P:=P) w t e it zv ht LU qE k1 k2 ln cn b1 b2 Nn (by omega)
   have kI:∀k,k<cn.toNat*it.size->∃x,z[k % z.length]? =some x/\(madeCells zv.cells (cn.toNat*it.size))[k]? =some x.val:=fun k hk=>pU hm (by rw[FR,jI];omega) k hk
   refine⟨.slice (some ⟨w.heap.size,0,none⟩) ln.toNat cn.toNat,madeCells zv.cells (cn.toNat*it.size),e,by simp only[execOp,ho,r1,r2,Sem.run_bind,gm,Result.andThen_ok,Sem.run_pure],rfl,?_,?_,?_,?_,fun ι' hι=>?_⟩
   ·simp only[List.length_replicate,size_madeCells,FR]
    exact Nat.mul_le_mul_right _ (by omega)
   ·intro cs dx
    have:=List.eq_of_mem_replicate dx
    subst this;simp
   ·intro cs dx x hx
    have:=List.eq_of_mem_replicate dx
    subst this
    obtain⟨c,_,rfl⟩:=List.mem_map.1 hx;exact c.nu
   ·intro i j cs x rN hj
    have lV:=(List.getElem?_eq_some_iff.1 rN).1
    have:=List.eq_of_mem_replicate (List.mem_of_getElem? rN)
    subst this
    simp only[List.length_replicate]at lV
    simp only[List.getElem?_map,Option.map_eq_some_iff]at hj
    obtain⟨q,hq,rfl⟩:=hj
    have im:=(List.getElem?_eq_some_iff.1 hq).1
    dsimp only
    obtain⟨x,hx,ze⟩:=kI (i*z.length+j) (by
     rw[<-FR]
     calc i*z.length+j<i*z.length+z.length:=by omega
      _=(i+1)*z.length:=by rw[Nat.add_mul,Nat.one_mul]
      _<=cn.toNat*z.length:=Nat.mul_le_mul_right _ (by omega))
    rw[Nat.mul_comm i,Nat.mul_add_mod,Nat.mod_eq_of_lt im,hq]at hx
    injection hx with hx;subst hx
    exact⟨_,by rw[Nat.mul_comm i]at ze ⊢;exact ze,xw q⟩
   ·refine .own _ 0 _ 0 _ _ hι rfl (by omega) (.inr (by simp)) ?_ (by simp only[maxLen];omega)
    dsimp only;rw[size_madeCells,FR];simp
  ·simp at hv
 ·simp at hv
end
end Go.Proofs.YtgoljkjaameagaaGreat.V

namespace Go.Proofs.YtgoljkjaameagaaGreat.V
open Go.RowKit
variable {P:Program} {w w':World} {D D':Nat->Prop} {ι ι':Names}
def Fi (P:Program) (k:TypeId) (m:MK):Prop:=
 (∃s,m=⟨false,[s]⟩/\fx P k=some s)∨
 (∃fs ts,m=⟨true,ts⟩/\P.underlying k=some (.struct fs)/\eM P 4 0 fs.toList=some ts/\P.stoodInHeld k=false/\∀f∈fs.toList,(fx P f.type).isSome=true)
theorem r4 {t:TypeId} {m:MK} {z:K} (h:tn P t=some (m,z)):∃k e i zv,P.underlying t=some (.map k e)/\P.info? e=some i/\i.zero=some zv/\G2 zv=some z/\Fi P k m:=by
 unfold tn at h
 split at h
 ·rename_i k e ht
  split at h
  ·rename_i zv s h1 h2 h3
   simp only[Option.map_eq_some_iff,Prod.mk.injEq]at h
   obtain⟨z',hz,rfl,rfl⟩:=h
   simp only[Option.bind_eq_some_iff]at h2
   obtain⟨i,hi,qE⟩:=h2
   exact⟨k,e,i,zv,ht,hi,qE,hz,.inl ⟨s,rfl,h3⟩⟩
  ·rename_i zv fs h1 h2 h3 h4
   split at h
   ·rename_i ts z' yv hz
    split at h
    ·rename_i hc
     simp only[Option.some.injEq,Prod.mk.injEq]at h
     obtain⟨rfl,rfl⟩:=h
     simp only[Option.bind_eq_some_iff]at h2
     obtain⟨i,hi,qE⟩:=h2
     simp only[Bool.not_eq_true',List.all_eq_true]at hc
     exact⟨k,e,i,zv,ht,hi,qE,hz,.inr ⟨fs,ts,rfl,h4,yv,hc.1,hc.2⟩⟩
    ·cases h
   ·cases h
  ·cases h
 ·cases h
theorem xE {t:TypeId} {s:TS} (ht:fx P t=some s) (em:Bool) (n:Nat) (v:Value):(Instr.checkKey em (n+1) t v).run P w=.ok () w:=by
 unfold Instr.checkKey
 cases s with
 |tB=>simp[run_underlying (qf ht)]
 |tS=>simp[run_underlying (qh ht)]
 |tI=>
  obtain⟨q,hq⟩:=qg ht
  simp[run_underlying hq]
theorem xF (em:Bool) (n:Nat) (vs:Array Value):∀(d:Nat) (fs:List Field) (off:Nat) (ts:List TS),eM P (d+1) off fs=some ts->(∀f∈fs,(fx P f.type).isSome=true)->off+ts.length<=vs.size->
  Sem.run P (forIn fs PUnit.unit fun f (_:PUnit)=>if f.name≠ "_" then do
    let x <-Go.part f.type vs f.offset
    Instr.checkKey em (n+1) f.type x
    pure (ForInStep.yield PUnit.unit)
   else pure (ForInStep.yield PUnit.unit)) w=Result.ok PUnit.unit w
 |d,[],off,ts,_,_,_=>by simp
 |d,f::r,off,ts,hf,hs,hl=>by
  rw[yZ]at hf
  split at hf
  ·rename_i hcond
   obtain⟨ho,ik⟩:=hcond
   split at hf
   ·rename_i s Qx
    split at hf
    ·rename_i vL
     simp only[Option.map_eq_some_iff]at hf
     obtain⟨NN,hr,rfl⟩:=hf
     simp only[List.length_cons]at hl
     have ih:=xF em n vs d r (off+1) NN hr (fun f hf=>hs f (List.mem_cons_of_mem _ hf)) (by omega)
     have hu:vs[off]? =some vs[off]:=by simp
     simp only[List.forIn_cons,Sem.run_bind,if_pos ik,ho,mV vL hu,Result.andThen_ok,xE Qx,Sem.run_pure]
     exact ih
    ·cases hf
   ·rename_i hn
    have:=hs f (by simp)
    rw[hn]at this;cases this
  ·cases hf
theorem EM {k:TypeId} {m:MK} (hk:Fi P k m) (em:Bool) (key:AV) (u:Value) (vL:key.isAgg=m.ka) (hlen:key.cells.length=m.ks) (hr:cL P w D ι key u):(Instr.checkKey em 10000 k u).run P w=.ok () w:=by
 rcases hk with⟨s,rfl,hs⟩|⟨fs,ts,rfl,sg,yv,dK,dE⟩
 ·exact xE hs em 9999 u
 ·cases key<;>simp[AV.isAgg]at vL
  rename_i cs
  obtain⟨vs,f,rfl,h1,_⟩:=ja hr
  unfold Instr.checkKey
  simp only[Sem.run_bind,run_underlying sg,Result.andThen_ok]
  rw[<-Array.forIn_toList]
  have h:=xF (P:=P) (w:=w) em 9998 vs 3 fs.toList 0 ts yv dE (by simp[AV.cells,MK.ks]at hlen;omega)
  rw[h]
  rfl
theorem Is (a b:ByteArray):(a==b)=decide (a=b):=by
 by_cases h:a=b
 ·subst h;rw[decide_eq_true rfl]
  obtain⟨x⟩:=a
  show(x==x)=true
  simp
 ·rw[decide_eq_false h,Bool.eq_false_iff]
  intro hc
  obtain⟨x⟩:=a
  obtain⟨y⟩:=b
  exact h (by rw[show x=y by simpa using(show(x==y)=true from hc)])
theorem Kp {t:TypeId} {s:TS} {x y:AV} {u v:Value} {b:Bool} {d:TypeDesc} (ht:fx P t=some s) (hd:P.underlying t=some d) (he:fY s x y=some b) (hx:cL P w D ι x u) (hy:cL P w D ι y v):Instr.sameNow d u v=some b:=by
 unfold fY at he
 split at he
 ·rename_i k n k' n'
  split at he
  ·rename_i hk
   subst hk
   simp at he;subst he
   obtain⟨q,hq⟩:=qg ht
   rw[hd]at hq;injection hq with hq;subst hq
   rw[du hx,du hy]
   simp[Instr.sameNow]
   rfl
  ·cases he
 ·simp at he;subst he
  have hq:=qf ht
  rw[hd]at hq;injection hq with hq;subst hq
  rw[fc hx,fc hy];rfl
 ·rename_i a c
  simp at he;subst he
  have hq:=qh ht
  rw[hd]at hq;injection hq with hq;subst hq
  rw[fH hx,fH hy]
  simp only[Instr.sameNow,Is]
 ·cases he
def Found (es:List MapEntry) (i:Nat) (r:Option Nat) (res:Option (Nat×Value)):Prop:=(r=none/\res=none)∨∃j e,r=some (i+j)/\es[j]? =some e/\res=some (i+j,e.val)
theorem wM {e:MapEntry} {es:List MapEntry} {i:Nat} {r:Option Nat} {res:Option (Nat×Value)} (h:Found es (i+1) r res):Found (e::es) i r res:=by
 rcases h with h|⟨j,x,h1,h2,h3⟩
 ·exact .inl h
 ·exact .inr ⟨j+1,x,by rw[h1];congr 1;omega,by simpa using h2,by rw[h3];congr 2;omega⟩
theorem BV {t:TypeId} {s:TS} {d:TypeDesc} {x:AV} {u:Value} (ht:fx P t=some s) (hd:P.underlying t=some d) (hx:cL P w D ι x u):∀(rows:List (List AV)) (es:List MapEntry) (i:Nat) (r:Option Nat),es.length=rows.length->
  (∀(j:Nat) (cs:List AV),rows[j]? =some cs->∃(e:MapEntry) (kv:AV),es[j]? =some e/\cs.head? =some kv/\cL P w D ι kv e.key)->gn ⟨false,[s]⟩ [x] rows i=some r->∃res,Instr.findNow d u es i=some res/\Found es i r res
 |[],[],i,r,_,_,h=>by
  simp[gn]at h;subst h
  exact⟨none,rfl,.inl ⟨rfl,rfl⟩⟩
 |[],e::es,i,r,hl,_,h=>by simp at hl
 |cs::rows,[],i,r,hl,_,h=>by simp at hl
 |cs::rows,e::es,i,r,hl,hr,h=>by
  obtain⟨e',kv,LQ,hk,gQ⟩:=hr 0 cs rfl
  simp at LQ;subst LQ
  have dx:cs.take (MK.ks ⟨false,[s]⟩)=[kv]:=by
   cases cs with
   |nil=>simp at hk
   |cons a l=>simp at hk;subst hk;simp[MK.ks]
  unfold gn at h
  rw[dx]at h
  cases hq:fY s x kv with
  |none=>simp[e6,hq]at h
  |some b=>
   have hs:=Kp ht hd hq hx gQ
   cases b with
   |true=>
    simp[e6,hq]at h;subst h
    exact⟨some (i,e.val),by simp[Instr.findNow,hs],.inr ⟨0,e,rfl,rfl,rfl⟩⟩
   |false=>
    simp[e6,hq]at h
    obtain⟨res,h1,h2⟩:=BV ht hd hx rows es (i+1) r (by simpa using hl) (fun j cs hj=>hr (j+1) cs (by simpa using hj)) h
    exact⟨res,by simp[Instr.findNow,hs,h1],wM h2⟩
theorem qF {t:TypeId} {fs:Array Field} {ts:List TS} {xs ys:List AV} {vs us:Array Value} {b:Bool} (sg:P.underlying t=some (.struct fs)) (dK:P.stoodInHeld t=false) (yv:eM P 4 0 fs.toList=some ts) (hx:fu P w D ι xs vs) (hy:fu P w D ι ys us) (hv:e6 ts xs ys=some b):(Op.equal t (.agg vs) (.agg us)).run P w=.ok b w:=by
 obtain⟨l1,l2⟩:=sb hv
 have q:=sM (w:=w) 4 fs.toList 0 ts yv 9998 (by omega) xs ys vs us b hx hy (by simpa[List.take_of_length_le,l1,l2]using hv)
 have Jd:P.fieldsOf t=fs:=by simp[Program.fieldsOf,sg]
 unfold Op.equal
 rw[show Op.maxDepth=9999+1 from rfl,run_equalIn_struct w 9999 t _ _ (by rw[Jd];exact sg) dK,Jd,q]
theorem sJ {cs:List AV} {v:Value} (h:cL P w D ι (.agg cs) v):∃vs,v=.agg vs/\fu P w D ι cs vs:=by
 obtain⟨vs,f,rfl,n1,_,f1,r1⟩:=ja h
 exact⟨vs,rfl,n1,fun j a ha=>⟨f j,f1 j (List.getElem?_eq_some_iff.1 ha).1,r1 j a ha⟩⟩
theorem BU {t:TypeId} {fs:Array Field} {ts:List TS} {xs:List AV} {vs:Array Value} (sg:P.underlying t=some (.struct fs)) (dK:P.stoodInHeld t=false) (yv:eM P 4 0 fs.toList=some ts) (hx:fu P w D ι xs vs):∀(rows:List (List AV)) (es:List MapEntry) (i:Nat) (r:Option Nat),es.length=rows.length->
  (∀(j:Nat) (cs:List AV),rows[j]? =some cs->∃e:MapEntry,es[j]? =some e/\cL P w D ι (.agg (cs.take ts.length)) e.key)->gn ⟨true,ts⟩ xs rows i=some r->∃res,(Instr.findAsking t (.agg vs) es i).run P w=.ok res w/\Found es i r res
 |[],[],i,r,_,_,h=>by
  simp[gn]at h;subst h
  exact⟨none,by simp[Instr.findAsking],.inl ⟨rfl,rfl⟩⟩
 |[],e::es,i,r,hl,_,h=>by simp at hl
 |cs::rows,[],i,r,hl,_,h=>by simp at hl
 |cs::rows,e::es,i,r,hl,hr,h=>by
  obtain⟨e',LQ,gQ⟩:=hr 0 cs rfl
  simp at LQ;subst LQ
  obtain⟨us,hk,hy⟩:=sJ gQ
  unfold gn at h
  simp only[MK.ks]at h
  split at h
  ·rename_i hq
   simp at h;subst h
   have q:=qF sg dK yv hx hy hq
   exact⟨some (i,e.val),by simp[Instr.findAsking,hk,q],.inr ⟨0,e,rfl,rfl,rfl⟩⟩
  ·rename_i hq
   have q:=qF sg dK yv hx hy hq
   obtain⟨res,h1,h2⟩:=BU sg dK yv hx rows es (i+1) r (by simpa using hl) (fun j cs hj=>hr (j+1) cs (by simpa using hj)) h
   exact⟨res,by simp[Instr.findAsking,hk,q,h1],wM h2⟩
  ·cases h
theorem wG {a:AV} (h:a.isAgg=false):a.cells=[a]:=by cases a<;>simp_all [AV.isAgg,AV.cells]
theorem wL {k:TypeId} {m:MK} {B:s9} {r:Row} (hk:Fi P k m) {key:AV} {u:Value} (hr:cL P w D ι key u) {es:Array MapEntry} (fw:es.size=r.rows.length)
  (hM:∀(i:Nat) (cs:List AV),r.rows[i]? =some cs->∃(e:MapEntry) (kv vv:AV),es[i]? =some e/\part m.ka m.ks cs=some kv/\cs[m.ks]? =some vv/\cL P w D ι kv e.key/\cL P w D ι vv e.val) {fi:Option Nat} (h:fR m key r.rows=some fi):
  (∀em,(Instr.checkKey em 10000 k u).run P w=.ok () w)/\∃res,(Instr.findKey k u es.toList).run P w=.ok res w/\Found es.toList 0 fi res:=by
 unfold fR at h
 split at h
 ·rename_i hc
  obtain⟨c1,c2,c3⟩:=hc
  refine⟨fun em=>EM hk em key u c1 c2 hr,?_⟩
  rcases hk with⟨s,rfl,hs⟩|⟨fs,ts,rfl,sg,yv,dK,dE⟩
  ·rw[wG c1]at h
   have hd:∃d,P.underlying k=some d:=by
    cases s with
    |tB=>exact⟨_,qf hs⟩
    |tS=>exact⟨_,qh hs⟩
    |tI=>obtain⟨q,hq⟩:=qg hs;exact⟨_,hq⟩
   obtain⟨d,hd⟩:=hd
   obtain⟨res,h1,h2⟩:=BV hs hd hr r.rows es.toList 0 fi (by simpa using fw) (fun j cs hj=>by
    obtain⟨e,kv,vv,q1,q2,_,q4,_⟩:=hM j cs hj
    exact⟨e,kv,by simpa using q1,by simpa[part]using q2,q4⟩) h
   exact⟨res,by simp[Instr.findKey,run_underlying hd,h1],h2⟩
  ·cases key<;>simp[AV.isAgg]at c1
   rename_i cs
   obtain⟨vs,rfl,hL⟩:=sJ hr
   obtain⟨res,h1,h2⟩:=BU sg dK yv hL r.rows es.toList 0 fi (by simpa using fw) (fun j cs hj=>by
    obtain⟨e,kv,vv,q1,q2,_,q4,_⟩:=hM j cs hj
    unfold part at q2
    simp only[if_true]at q2
    split at q2
    ·simp only[Option.some.injEq]at q2;subst q2
     exact⟨e,by simpa using q1,q4⟩
    ·cases q2) h
   exact⟨res,(run_findKey_eq w (by simp[sg]) _ _).trans h1,h2⟩
 ·cases h
section
variable {g:Rows} {hs:Nat} {env:Env} {a:Act} {o:Oper} {id:Id} {v:AV}
theorem Ay {m:MK} {x:AV} {u:Value} {p:Id×Row} (S:gD P hs D ι g w) (hr:cL P w D ι x u) (h:dX g m x=some p):∃B,u=.map (some B.b)/\g p.1=some p.2/\ι p.1=some B/\B.k=some (.map m)/\M9 P w D ι B m p.2:=by
 unfold dX at h
 split at h
 ·rename_i i m'
  split at h
  ·rename_i hm
   subst hm
   simp only[Option.map_eq_some_iff]at h
   obtain⟨r,hg,rfl⟩:=h
   obtain⟨B,rfl,hB,hk⟩:=F3 hr
   obtain⟨B',dD,R,_⟩:=S.row i r hg
   rw[hB]at dD;injection dD with dD;subst dD
   exact⟨B,rfl,hg,hB,hk,(R.map _ hk).2⟩
  ·cases h
 ·cases h
theorem P5 {t:TypeId} {x k:Operand} {ok:Bool} {m:MK} {z:K} {x' k':O} {mr:Option Row} (S:gD P hs D ι g w) (E:cu P w D ι env a) (ho:o.op=.lookup t x k ok) (hc:tn P t=some (m,z)) (hx:cO P x=some x') (hk:cO P k=some k')
  (hv:bF (.look m ok z) [cU env x',cU env k'] g id=some (v,mr)):mr=none/\oX P a o w D ι v:=by
 obtain⟨kt,e,i,zv,ht,hi,qE,Tj,hK⟩:=r4 hc
 simp only[bF,Option.bind_eq_some_iff,Option.map_eq_some_iff,Prod.mk.injEq]at hv
 obtain⟨p,hp,fi,GN,y,hy,rfl,rfl⟩:=hv
 obtain⟨B,hu,hg,hB,vK,es,clock,hb,fw,hlen,hM⟩:=Ay S (dp E hx) hp
 obtain⟨K7,res,hf,hF⟩:=wL (B:=B) hK (dp E hk) fw hM GN
 have key:∃val,(match res with|some (_,v)=>(v,true)|none=>(zv,false))=(val,fi.isSome)/\cL P w D ι y val:=by
  rcases hF with⟨rfl,rfl⟩|⟨j,en,rfl,he,rfl⟩
  ·simp only[eh,Option.some.injEq]at hy;subst hy
   refine⟨zv,rfl,?_⟩
   rw[Ao Tj];exact xw z
  ·simp only[eh,Option.bind_eq_some_iff,Nat.zero_add]at hy
   obtain⟨cs,dx,hy⟩:=hy
   obtain⟨e',kv,vv,q1,_,q3,_,q5⟩:=hM _ cs dx
   rw[hy]at q3;injection q3 with q3;subst q3
   have:e'=en:=by
    have h1:es.toList[j]? =some e':=by simpa using q1
    rw[he]at h1;injection h1 with h1;exact h1.symm
   subst this
   exact⟨_,rfl,q5⟩
 obtain⟨val,so,lW⟩:=key
 have fq:(getObj B.b).run P w=.ok (.map es clock) w:=MapKept.run_getObj_map hb
 have hz:(zeroValue e).run P w=.ok zv w:=by simp[zeroValue,typeInfo,hi,qE]
 refine⟨rfl,if ok then .tuple #[val,.bool fi.isSome]else val,?_,?_⟩
 ·simp only[execOp,ho,hu,Instr.lookup,Sem.run_bind,run_underlying ht,Result.andThen_ok,fq,Sem.run_pure,K7,hf]
  rcases hF with⟨rfl,rfl⟩|⟨j,en,rfl,he,rfl⟩
  ·simp only[Prod.mk.injEq]at so
   simp[hz,so.1]
  ·simp only[Prod.mk.injEq]at so
   simp[so.1]
 ·cases ok with
  |false=>exact lW
  |true=>
   refine .gO _ _ (fun j=>if j=0 then val else .bool fi.isSome) rfl (fun j hj=>?_) (fun j b hj=>?_)
   ·have:j=0∨j=1:=by simp at hj;omega
    rcases this with rfl|rfl<;>rfl
   ·match j,hj with
    |0,hj=>simp at hj;subst hj;exact lW
    |1,hj=>simp at hj;subst hj;exact .eP _ _ (.bool _)
    |j+2,hj=>simp at hj
theorem P8 {t:TypeId} {x:Operand} {m:MK} {z:K} {x':O} {mr:Option Row} (S:gD P hs D ι g w) (E:cu P w D ι env a) (ho:o.op=.call {callee:=.builtin .len,args:= #[x],argTypes:= #[t]}) (hc:tn P t=some (m,z)) (hx:cO P x=some x')
  (hv:bF (.len m) [cU env x'] g id=some (v,mr)):mr=none/\oX P a o w D ι v:=by
 obtain⟨kt,e,i,zv,ht,hi,qE,Tj,hK⟩:=r4 hc
 simp only[bF,Option.map_eq_some_iff,Prod.mk.injEq]at hv
 obtain⟨p,hp,rfl,rfl⟩:=hv
 obtain⟨B,hu,hg,hB,vK,es,clock,hb,fw,hlen,hM⟩:=Ay S (dp E hx) hp
 have fq:(getObj B.b).run P w=.ok (.map es clock) w:=MapKept.run_getObj_map hb
 refine⟨rfl,.int .i64 (es.size:Int),?_,by rw[fw];exact .eP _ _ (.int _ _)⟩
 simp only[execOp,ho,resolve,Sem.run_bind,Sem.run_pure,Result.andThen_ok,invoke,builtin,Array.map,hu]
 simp[Builtin.len_,run_underlying ht,goInt,hu,fq]
def MkM (P:Program) (a:Act) (o:Oper) (w:World) (id:Id) (v:AV) (r:Row):Prop:=
 ∃m,(execOp a.eval o).run P w=.ok (.value (.map (some w.heap.size))) (w.alloc (.map #[] 0))/\v=.map id m/\r=⟨true,m.qd,[]⟩
theorem R9 {t:TypeId} {m:MK} (ho:o.op=.makeMap t none):MkM P a o w id (.map id m) ⟨true,m.qd,[]⟩:=by
 refine⟨m,?_,rfl,rfl⟩
 simp[execOp,ho,Instr.makeMap,go_sem]
def MkC (P:Program) (a:Act) (o:Oper) (w:World) (id:Id) (v:AV) (r:Row):Prop:=
 ∃n,(execOp a.eval o).run P w=.ok (.value (.chan (some w.heap.size))) (w.alloc (.chan n #[] false 0 0 false))/\v=.r7 id/\r=⟨true,qT+n,[]⟩
theorem Po {t e:TypeId} {x:Operand} {x':O} {dir:ChanDir} {i:TypeInfo} {n:Nat} (E:cu P w D ι env a) (ho:o.op=.makeChan t x) (ht:P.underlying t=some (.chan dir e)) (hi:P.info? e=some i) (hb:i.bytes<=32768) (hx:cO P x=some x') (hn:de (cU env x')=some n):MkC P a o w id (.r7 id) ⟨true,qT+n,[]⟩:=by
 refine⟨n,?_,rfl,rfl⟩
 have hr:=dp E hx
 unfold de at hn
 split at hn
 ·rename_i k m hm
  rw[hm]at hr
  split at hn
  ·rename_i hc
   simp only[Option.some.injEq]at hn
   subst hn
   have HY:((m.toNat:Nat):Int)=m:=by omega
   have dY:(i.bytes:Int)*(m.toNat:Nat)<=281474976710544:=by
    have h1:i.bytes*m.toNat<=32768*1048576:=Nat.mul_le_mul hb (by omega)
    have h2:((i.bytes*m.toNat:Nat):Int)<=281474976710544:=by omega
    rwa [Int.natCast_mul]at h2
   have h:=Conc.run_makeChan (P:=P) (w:=w) ht hi k m.toNat (by omega) dY
   rw[HY]at h
   simp only[execOp,ho,du hr,Sem.run_bind,h,Result.andThen_ok,Sem.run_pure]
  ·cases hn
 ·cases hn
theorem zX {x:AV} {u:Value} {i:Id} {r:Row} (S:gD P hs D ι g w) (hr:cL P w D ι x u) (hx:x=.r7 i) (hg:g i=some r):∃B c,u=.chan (some B.b)/\ι i=some B/\B.k=some (.chan c)/\r.sz=qT+c/\Ic P w D ι B c r:=by
 subst hx
 obtain⟨B,c,rfl,hB,hk⟩:=MH hr
 obtain⟨B',dD,R,_⟩:=S.row i r hg
 rw[hB]at dD;injection dD with dD;subst dD
 exact⟨B,c,rfl,hB,hk,R.chan c hk⟩
theorem P0 {t e:TypeId} {dir:ChanDir} {x:Operand} {x':O} (S:gD P hs D ι g w) (E:cu P w D ι env a) (ho:o.op=.call {callee:=.builtin .len,args:= #[x],argTypes:= #[t]}) (ht:P.underlying t=some (.chan dir e)) (hx:cO P x=some x') (hv:dc g (cU env x')=some v):oX P a o w D ι v:=by
 have hr:=dp E hx
 unfold dc at hv
 split at hv
 ·rename_i i he
  simp only[Option.map_eq_some_iff]at hv
  obtain⟨r,hg,rfl⟩:=hv
  obtain⟨B,c,hu,hB,hk,fw,buf,s,q,hb,K6,_⟩:=zX S hr he hg
  have fq:(getObj B.b).run P w=.ok (.chan c buf false s q false) w:=by simp[getObj,Sem.run,hb]
  refine⟨.int .i64 (buf.size:Int),?_,by rw[K6];exact .eP _ _ (.int _ _)⟩
  simp only[execOp,ho,resolve,Sem.run_bind,Sem.run_pure,Result.andThen_ok,invoke,builtin,Array.map,hu]
  simp[Builtin.len_,run_underlying ht,goInt,hu,fq]
 ·cases hv
end
end Go.Proofs.YtgoljkjaameagaaGreat.V

namespace Go.Proofs.YtgoljkjaameagaaGreat.V
open Go.RowKit
variable {P:Program} {w w':World} {D D':Nat->Prop} {ι ι':Names}
def Lp (P:Program) (a:Act) (o:Oper) (w:World) (D:Nat->Prop) (ι:Names) (id:Id) (v:AV):Option Row->Prop
 |none=>oX P a o w D ι v
 |some r=>Mk P a o w D ι id v r∨MkM P a o w id v r∨MkC P a o w id v r
section
variable {g:Rows} {hs:Nat} {env:Env} {a:Act} {o:Oper} {id:Id} {v:AV}
theorem lN {x:Option AV} {mr:Option Row} (h:x.map (·,(none:Option Row))=some (v,mr)) (H:x=some v->oX P a o w D ι v):Lp P a o w D ι id v mr:=by
 cases x with
 |none=>simp at h
 |some y=>simp at h;obtain⟨rfl,rfl⟩:=h;exact H rfl
theorem Sh {neg:Bool} {t yt:TypeId} {x y:Operand} {vo:gG} {mr:Option Row} (ho:o.op=.binOp (if neg then .neq else .eql) t x y yt) (hc:tk P neg t x y=some vo) (hq:eS vo (cU env) g id=some (v,mr)) (E:cu P w D ι env a):Lp P a o w D ι id v mr:=by
 unfold tk at hc
 split at hc
 ·split at hc
  ·rename_i e ht
   simp only[Option.map_eq_some_iff]at hc
   obtain⟨x',hx,rfl⟩:=hc
   simp only[eS,ep,Bool.false_eq_true,if_false,Option.map_eq_some_iff,Prod.mk.injEq]at hq
   obtain⟨b,hb,rfl,rfl⟩:=hq
   exact PW E ho ht hx hb
  ·simp at hc
 ·split at hc
  ·rename_i ht
   simp only[Option.map_eq_some_iff]at hc
   obtain⟨x',hx,rfl⟩:=hc
   simp only[eS,ep,if_true,Option.map_eq_some_iff,Prod.mk.injEq]at hq
   obtain⟨b,hb,rfl,rfl⟩:=hq
   exact PV E ho ht hx hb
  ·simp at hc
 ·split at hc
  ·rename_i ht
   simp only[Option.map_eq_some_iff]at hc
   obtain⟨x',hx,rfl⟩:=hc
   simp only[eS,Option.map_eq_some_iff,Prod.mk.injEq]at hq
   obtain⟨b,hb,rfl,rfl⟩:=hq
   exact SA E ho ht hx hb
  ·simp at hc
 ·split at hc
  ·rename_i s hs
   simp only[Option.bind_eq_bind,Option.bind_eq_some_iff,Option.pure_def,Option.some.injEq]at hc
   obtain⟨x',hx,y',hy,rfl⟩:=hc
   simp only[eS,Option.map_eq_some_iff,Prod.mk.injEq]at hq
   obtain⟨b,hb,rfl,rfl⟩:=hq
   have Ce:fx P t=some s:=by
    unfold T6 at hs
    split at hs
    ·rename_i s' h;simp at hs;subst hs;exact h
    ·split at hs
     ·split at hs
      ·simp at hs
      ·simp at hs
     ·simp at hs
   exact SB E ho Ce hx hy hb
  ·rename_i ts hs
   simp only[Option.bind_eq_bind,Option.bind_eq_some_iff,Option.pure_def,Option.some.injEq]at hc
   obtain⟨x',hx,y',hy,rfl⟩:=hc
   simp only[eS]at hq
   split at hq
   ·rename_i xs ys h1 h2
    simp only[Option.map_eq_some_iff,Prod.mk.injEq]at hq
    obtain⟨b,hb,rfl,rfl⟩:=hq
    unfold T6 at hs
    split at hs
    ·simp at hs
    ·split at hs
     ·rename_i fs sg
      split at hs
      ·rename_i hg
       simp only[Option.map_eq_some_iff,TM.ag.injEq]at hs
       obtain⟨NN,yv,rfl⟩:=hs
       simp only[Bool.and_eq_true,Bool.not_eq_true']at hg
       exact Sz E ho sg hg.1 hg.2 yv hx hy h1 h2 hb
      ·simp at hs
     ·simp at hs
   ·simp at hq
  ·simp at hc
theorem Pw {c:Call} {vo:gG} {mr:Option Row} (ho:o.op=.call c) (hc:nV P c=some vo) (hq:eS vo (cU env) g id=some (v,mr)) (S:gD P hs D ι g w) (E:cu P w D ι env a):Lp P a o w D ι id v mr:=by
 unfold nV at hc
 split at hc
 ·rename_i kN
  split at hc
  ·rename_i x t h1 h2
   have hce:c={callee:=.builtin .len,args:= #[x],argTypes:= #[t]}:=by
    obtain⟨a,b,c⟩:=c
    simp only at h1 h2 kN
    subst kN
    congr
    ·exact Array.ext' h1
    ·exact Array.ext' h2
   rw[hce]at ho
   split at hc
   ·rename_i e ht
    simp only[Option.map_eq_some_iff]at hc
    obtain⟨x',hx,rfl⟩:=hc
    simp only[eS,Option.map_eq_some_iff,Prod.mk.injEq]at hq
    obtain⟨n,hn,rfl,rfl⟩:=hq
    exact SC E ho ht hx hn
   ·rename_i ht
    simp only[Option.map_eq_some_iff]at hc
    obtain⟨x',hx,rfl⟩:=hc
    exact lN hq fun h=>P3 E ho ht hx h
   ·split at hc
    ·rename_i m z x' hm hx
     simp only[Option.some.injEq]at hc
     subst hc
     obtain⟨rfl,h⟩:=P8 (id:=id) S E ho hm hx hq
     exact h
    ·cases hc
   ·rename_i ht
    simp only[Option.map_eq_some_iff]at hc
    obtain⟨x',hx,rfl⟩:=hc
    exact lN hq fun h=>P0 S E ho ht hx h
   ·simp at hc
  ·simp at hc
 ·split at hc
  ·split at hc
   ·split at hc
    ·split at hc
     ·simp only[Option.bind_eq_bind,Option.bind_eq_some_iff,Option.pure_def,Option.some.injEq]at hc
      obtain⟨x',hx,y',hy,rfl⟩:=hc
      simp[eS]at hq
     ·simp at hc
    ·simp at hc
   ·simp at hc
  ·simp at hc
 ·split at hc
  ·split at hc
   ·split at hc
    ·simp only[Option.map_eq_some_iff]at hc
     obtain⟨x',hx,rfl⟩:=hc
     simp[eS]at hq
    ·simp at hc
   ·simp at hc
  ·simp at hc
 ·split at hc
  ·simp only[Option.map_eq_some_iff]at hc
   obtain⟨x',hx,rfl⟩:=hc
   simp[eS]at hq
  ·simp at hc
 ·simp only[Option.map_eq_some_iff]at hc
  obtain⟨x',hx,rfl⟩:=hc
  simp[eS]at hq
 ·split at hc
  ·split at hc
   ·simp only[Option.some.injEq]at hc
    subst hc
    simp[eS]at hq
   ·cases hc
  ·cases hc
 ·split at hc
  ·split at hc
   ·split at hc
    ·simp only[Option.bind_eq_bind,Option.bind_eq_some_iff,Option.pure_def,Option.some.injEq]at hc
     obtain⟨x',hx,y',hy,rfl⟩:=hc
     simp[eS]at hq
    ·simp at hc
   ·simp at hc
  ·simp at hc
 ·simp at hc
theorem zD {vo:gG} {mr:Option Row} (hc:rM P o.op=some vo) (hq:eS vo (cU env) g id=some (v,mr)) (S:gD P hs D ι g w) (E:cu P w D ι env a):Lp P a o w D ι id v mr:=by
 unfold rM at hc
 split at hc
 ·rename_i ho
  simp only[Option.map_eq_some_iff]at hc
  obtain⟨x',hx,rfl⟩:=hc
  simp[eS]at hq;obtain⟨rfl,rfl⟩:=hq
  exact NP E (.inl ho) hx
 ·rename_i ho
  simp only[Option.map_eq_some_iff]at hc
  obtain⟨x',hx,rfl⟩:=hc
  simp[eS]at hq;obtain⟨rfl,rfl⟩:=hq
  exact NP E (.inr ho) hx
 ·rename_i ho
  simp only[Option.bind_eq_bind,Option.bind_eq_some_iff,Option.pure_def,Option.some.injEq]at hc
  obtain⟨c',h1,x',h2,y',h3,rfl⟩:=hc
  exact lN hq fun h=>P9 E ho h1 h2 h3 h
 ·rename_i ho
  simp only[Option.map_eq_some_iff]at hc
  obtain⟨z,hz,rfl⟩:=hc
  simp only[eS,Option.some.injEq,Prod.mk.injEq]at hq
  obtain⟨rfl,rfl⟩:=hq
  exact .inl (Sa ho hz)
 ·rename_i ho
  simp only[Option.map_eq_some_iff]at hc
  obtain⟨x',hx,rfl⟩:=hc
  simp only[eS,Option.map_eq_some_iff,Prod.mk.injEq]at hq
  obtain⟨cs,dx,rfl,rfl⟩:=hq
  exact .inl (R8 E ho hx dx)
 ·rename_i ho
  simp only[Option.bind_eq_bind,Option.bind_eq_some_iff,Option.pure_def,Option.some.injEq]at hc
  obtain⟨ag,h1,n,h2,x',h3,rfl⟩:=hc
  exact lN hq fun h=>P4 S E ho h1 h2 h3 h
 ·rename_i ho
  simp only[Option.bind_eq_bind,Option.bind_eq_some_iff,Option.pure_def,Option.some.injEq]at hc
  obtain⟨n,h2,x',h3,y',h4,rfl⟩:=hc
  simp[eS]at hq
 ·rename_i ho
  simp only[Option.map_eq_some_iff]at hc
  obtain⟨x',hx,rfl⟩:=hc
  exact lN hq fun h=>Sy E ho hx h
 ·rename_i op t x y yt ho
  unfold wq at hc
  split at hc
  ·exact Sh (neg:=false) ho hc hq E
  ·exact Sh (neg:=true) ho hc hq E
  ·simp only[Option.bind_eq_bind,Option.bind_eq_some_iff,Option.pure_def,Option.some.injEq]at hc
   obtain⟨x',h3,y',h4,rfl⟩:=hc
   exact lN hq fun h=>SF (left:=true) E ho h3 h4 h
  ·simp only[Option.bind_eq_bind,Option.bind_eq_some_iff,Option.pure_def,Option.some.injEq]at hc
   obtain⟨x',h3,y',h4,rfl⟩:=hc
   exact lN hq fun h=>SF (left:=false) E ho h3 h4 h
  ·rename_i n1 n2 n3 n4
   split at hc
   ·simp only[Option.bind_eq_bind,Option.bind_eq_some_iff,Option.pure_def,Option.some.injEq]at hc
    obtain⟨x',h3,y',h4,rfl⟩:=hc
    exact lN hq fun h=>Sx E ho n1 n2 h3 h4 h
   ·simp only[Option.bind_eq_bind,Option.bind_eq_some_iff,Option.pure_def,Option.some.injEq]at hc
    obtain⟨x',h3,y',h4,rfl⟩:=hc
    exact lN hq fun h=>PT E ho n1 n2 h3 h4 h
   ·simp at hc
 ·rename_i ho
  simp only[Option.map_eq_some_iff]at hc
  obtain⟨x',hx,rfl⟩:=hc
  exact lN hq fun h=>SE E ho hx h
 ·rename_i ho
  simp only[Option.map_eq_some_iff]at hc
  obtain⟨x',hx,rfl⟩:=hc
  exact lN hq fun h=>SD E ho hx h
 ·rename_i ho
  split at hc
  ·rename_i q k h1 h2
   simp only[Option.map_eq_some_iff]at hc
   obtain⟨x',hx,rfl⟩:=hc
   exact lN hq fun h=>PU E ho h1 h2 hx h
  ·rename_i h1 h2
   simp only[Option.map_eq_some_iff]at hc
   obtain⟨x',hx,rfl⟩:=hc
   exact lN hq fun h=>by
    have hr:=dp E hx
    unfold ck at h
    split at h
    ·rename_i s hb
     simp at h;subst h
     rw[hb]at hr
     exact⟨.string s,by simp only[execOp,ho,fH hr,convert,Sem.run_bind,run_underlying h1,run_underlying h2,Result.andThen_ok,Sem.run_pure],.eP _ _ (.str _)⟩
    ·simp at h
  ·simp at hc
 ·rename_i ho
  split at hc
  ·rename_i e ht
   simp only[Option.bind_eq_bind,Option.bind_eq_some_iff,Option.pure_def,Option.some.injEq]at hc
   obtain⟨n,h1,x',h2,lo,h3,hi,h4,rfl⟩:=hc
   exact lN hq fun h=>M5 S E ho ht h1 h2 h3 h4 h
  ·rename_i ht
   simp only[Option.bind_eq_bind,Option.bind_eq_some_iff,Option.pure_def,Option.some.injEq]at hc
   obtain⟨x',h2,lo,h3,hi,h4,rfl⟩:=hc
   exact lN hq fun h=>KY E ho ht h2 h3 h4 h
  ·simp at hc
 ·rename_i ho
  split at hc
  ·rename_i fs sg
   split at hc
   ·rename_i f hf
    split at hc
    ·rename_i m hm
     simp only[Option.map_eq_some_iff]at hc
     obtain⟨x',hx,rfl⟩:=hc
     exact lN hq fun h=>M1 E ho sg hf hm hx h
    ·simp at hc
   ·simp at hc
  ·simp at hc
 ·rename_i ho
  split at hc
  ·rename_i fs sg
   split at hc
   ·rename_i f hf
    simp only[Option.bind_eq_bind,Option.bind_eq_some_iff,Option.pure_def,Option.some.injEq]at hc
    obtain⟨ag,h1,n,h2,x',h3,rfl⟩:=hc
    exact lN hq fun h=>M3 E ho sg hf h1 h2 h3 h
   ·simp at hc
  ·simp at hc
 ·rename_i ho
  split at hc
  ·rename_i e ht
   split at hc
   ·rename_i m hm
    simp only[Option.bind_eq_bind,Option.bind_eq_some_iff,Option.pure_def,Option.some.injEq]at hc
    obtain⟨x',h1,i',h2,rfl⟩:=hc
    exact lN hq fun h=>M4 S E ho ht hm h1 h2 h
   ·simp at hc
  ·rename_i len e ht
   split at hc
   ·rename_i m hm
    simp only[Option.bind_eq_bind,Option.bind_eq_some_iff,Option.pure_def,Option.some.injEq]at hc
    obtain⟨x',h1,i',h2,rfl⟩:=hc
    exact lN hq fun h=>PX E ho ht hm h1 h2 h
   ·simp at hc
  ·simp at hc
 ·rename_i ho
  split at hc
  ·rename_i ht
   simp only[Option.bind_eq_bind,Option.bind_eq_some_iff,Option.pure_def,Option.some.injEq]at hc
   obtain⟨x',h1,i',h2,rfl⟩:=hc
   exact lN hq fun h=>PZ E ho ht h1 h2 h
  ·rename_i len e ht
   simp only[Option.bind_eq_bind,Option.bind_eq_some_iff,Option.pure_def,Option.some.injEq]at hc
   obtain⟨ag,h0,n,h1,x',h2,i',h3,rfl⟩:=hc
   exact lN hq fun h=>PY E ho ht h0 h1 h2 h3 h
  ·simp at hc
 ·rename_i ho
  simp only[Option.map_eq_some_iff]at hc
  obtain⟨x',hx,rfl⟩:=hc
  exact lN hq fun h=>HR E ho hx h
 ·rename_i ho
  split at hc
  ·rename_i fs sg
   split at hc
   ·rename_i z l hz hl
    split at hc
    ·rename_i dE
     simp only[Option.map_eq_some_iff]at hc
     obtain⟨q,L7,rfl⟩:=hc
     simp only[eS,Option.map_eq_some_iff,Prod.mk.injEq]at hq
     obtain⟨cs,dx,rfl,rfl⟩:=hq
     exact M0 E ho sg hz hl (fun f hf=>by
      rw[Array.all_eq_true_iff_forall_mem]at dE
      exact dE f (Array.mem_toList_iff.1 hf)) L7 dx
    ·simp at hc
   ·simp at hc
  ·rename_i len e ht
   split at hc
   ·rename_i z l n hz hl hn
    simp only[Option.some.injEq]at hc
    subst hc
    simp only[eS,Option.map_eq_some_iff,Prod.mk.injEq]at hq
    obtain⟨cs,dx,rfl,rfl⟩:=hq
    exact KX E ho ht hz hl hn dx
   ·simp at hc
  ·simp at hc
 ·rename_i ho
  split at hc
  ·rename_i e ht
   split at hc
   ·rename_i sz z l h1 h2 h3
    split at hc
    ·rename_i hh
     simp only[Option.some.injEq]at hc
     subst hc
     simp only[eS,Option.map_eq_some_iff,Prod.mk.injEq]at hq
     obtain⟨rs,zb,rfl,rfl⟩:=hq
     exact .inl (JS E ho ht h1 h2 h3 hh.1 hh.2 (by rw[List.map_map]at zb;exact zb))
    ·simp at hc
   ·simp at hc
  ·simp at hc
 ·rename_i ho
  split at hc
  ·rename_i hh
   simp only[Option.map_eq_some_iff]at hc
   obtain⟨l,hl,rfl⟩:=hc
   simp[eS]at hq;obtain⟨rfl,rfl⟩:=hq
   exact P6 E ho hh.1 hh.2 hl
  ·split at hc
   ·rename_i hh
    simp only[Option.map_eq_some_iff]at hc
    obtain⟨l,hl,rfl⟩:=hc
    simp[eS]at hq;obtain⟨rfl,rfl⟩:=hq
    exact P7 E ho hh.1 hh.2 hl
   ·simp at hc
 ·rename_i ho
  split at hc
  ·rename_i e ht
   split at hc
   ·rename_i m z i h1 h2 h3
    split at hc
    ·rename_i hb
     simp only[Option.bind_eq_bind,Option.bind_eq_some_iff,Option.pure_def,Option.some.injEq]at hc
     obtain⟨l',h4,c',h5,rfl⟩:=hc
     simp only[eS,Option.map_eq_some_iff,Prod.mk.injEq]at hq
     obtain⟨⟨n,r⟩,hr,rfl,rfl⟩:=hq
     exact .inl (Hb E ho ht h1 h2 h3 hb h4 h5 hr)
    ·simp at hc
   ·simp at hc
  ·simp at hc
 ·rename_i ho
  exact Pw ho hc hq S E
 ·rename_i ho
  split at hc
  ·rename_i dir e ht
   split at hc
   ·rename_i i hi
    split at hc
    ·rename_i hb
     simp only[Option.map_eq_some_iff]at hc
     obtain⟨x',hx,rfl⟩:=hc
     simp only[eS,Option.map_eq_some_iff,Prod.mk.injEq]at hq
     obtain⟨n,hn,rfl,rfl⟩:=hq
     exact .inr (.inr (Po E ho ht hi hb hx hn))
    ·cases hc
   ·cases hc
  ·cases hc
 ·simp only[Option.bind_eq_bind,Option.bind_eq_some_iff,Option.pure_def,Option.some.injEq]at hc
  obtain⟨x',_,y',_,rfl⟩:=hc
  simp[eS]at hq
 ·split at hc
  ·split at hc
   ·simp only[Option.map_eq_some_iff]at hc
    obtain⟨x',_,rfl⟩:=hc
    simp[eS]at hq
   ·cases hc
  ·cases hc
 ·rename_i ho
  split at hc
  ·rename_i m z hm
   simp only[Option.some.injEq]at hc
   subst hc
   simp only[eS,List.map_nil,bF,Option.some.injEq,Prod.mk.injEq]at hq
   obtain⟨rfl,rfl⟩:=hq
   exact .inr (.inl (R9 ho))
  ·cases hc
 ·rename_i ho
  split at hc
  ·rename_i m z x' k' hm hx hk
   simp only[Option.some.injEq]at hc
   subst hc
   obtain⟨rfl,h⟩:=P5 (id:=id) S E ho hm hx hk hq
   exact h
  ·cases hc
 ·split at hc
  ·simp only[Option.some.injEq]at hc
   subst hc
   simp[eS]at hq
  ·cases hc
 ·split at hc
  ·simp only[Option.some.injEq]at hc
   subst hc
   simp[eS]at hq
  ·cases hc
 ·simp only[Option.some.injEq]at hc
  subst hc
  simp[eS]at hq
 ·simp only[Option.some.injEq]at hc
  subst hc
  simp[eS]at hq
 ·simp at hc
end
end Go.Proofs.YtgoljkjaameagaaGreat.V

namespace Go.Proofs.YtgoljkjaameagaaGreat.V
open Go.RowKit
variable {P:Program} {w w':World} {D D':Nat->Prop} {ι ι':Names}
def kT (ι:Names) (id:Id) (B:s9):Names:=fun i=>if i=id then some B else ι i
theorem eb (ι:Names) (id:Id) (B:s9):kT ι id B id=some B:=if_pos rfl
theorem fe {ι:Names} {id:Id} {B:s9} (h:ι id=none):∀i B',ι i=some B'->kT ι id B i=some B':=fun i B' hi=>by
 have:i≠id:=by rintro rfl;rw[h]at hi;cases hi
 rw[kT,if_neg this];exact hi
theorem gr {ι:Names} {id i:Id} {B:s9} (h:i≠id):kT ι id B i=ι i:=if_neg h
section
variable {g:Rows} {hs:Nat} {env:Env} {a:Act} {o:Oper} {id:Id} {v:AV}
theorem lR.frame {B:s9} {r:Row} (h:lR P w D ι B r) (hb:w'.heap[B.b]? =w.heap[B.b]?) (hr:∀a v,cL P w D ι a v->cL P w' D' ι' a v):lR P w' D' ι' B r:=
 ⟨h.sz,by obtain⟨c,T,h1,h2⟩:=h.ye;exact⟨c,T,hb.trans h1,h2⟩,h.fits,h.len,h.flat,fun i j cs a hi hj=>by
  obtain⟨v,h1,h2⟩:=h.at_ i j cs a hi hj
  exact⟨v,(World.cell?_of_block (a:=⟨B.b,i*r.sz+j,none⟩) hb).trans h1,hr _ _ h2⟩⟩
theorem gR.frame {B:s9} {r:Row} (h:gR P w D ι B r) (hb:w'.heap[B.b]? =w.heap[B.b]?) (hr:∀a v,cL P w D ι a v->cL P w' D' ι' a v):gR P w' D' ι' B r:=
 ⟨h.sz,h.flat,fun hk=>(h.row hk).frame hb hr,fun m hm=>by
  obtain⟨h1,es,c,h2,h3,h5,h4⟩:=h.map m hm
  refine⟨h1,es,c,hb.trans h2,h3,h5,fun i cs hi=>?_⟩
  obtain⟨e,kv,vv,q1,q2,q3,q4,q5⟩:=h4 i cs hi
  exact⟨e,kv,vv,q1,q2,q3,hr _ _ q4,hr _ _ q5⟩,fun c hc=>by
  obtain⟨h1,buf,s,q,h2,h3,h4⟩:=h.chan c hc
  refine⟨h1,buf,s,q,hb.trans h2,h3,fun i cs hi=>?_⟩
  obtain⟨a,u,q1,q2,q3⟩:=h4 i cs hi
  exact⟨a,u,q1,q2,hr _ _ q3⟩⟩
theorem gD.kill (S:gD P hs D ι g w) (i:Id):gD P hs D ι (cw g i) w:=by
 refine⟨S.lo,S.dead,fun id r h=>?_,fun id kb r r' B B' h h' hw hB dD hb=>?_⟩
 ·unfold cw at h;split at h
  ·cases h
  ·exact S.row id r h
 ·unfold cw at h h'
  split at h
  ·cases h
  ·split at h'
   ·cases h'
   ·exact S.inj id kb r r' B B' h h' hw hB dD hb
theorem gD.sub {g':Rows} (S:gD P hs D ι g w) (h:∀id r,g' id=some r->g id=some r):gD P hs D ι g' w:=
 ⟨S.lo,S.dead,fun id r hr=>S.row id r (h id r hr),fun id kb r r' B B' h1 h2=>S.inj id kb r r' B B' (h _ _ h1) (h _ _ h2)⟩
theorem A8 {hid:List Nat} {n:Nat} {g:Rows}:∀id r,fZ hid n g id=some r->g id=some r:=fun id r h=>by
 cases hid with
 |nil=>exact h
 |cons a l=>
  have e:fZ (a::l) n g id=if (a::l).contains id.site=true/\id.bW=n then none else g id:=rfl
  rw[e]at h
  by_cases hc:(a::l).contains id.site=true/\id.bW=n
  ·rw[if_pos hc]at h;cases h
  ·rw[if_neg hc]at h;exact h
theorem gD.stay (S:gD P hs D ι g w) (hb:∀b,b<w.heap.size->w'.heap[b]? =w.heap[b]?) (hz:w.heap.size<=w'.heap.size) (hD:∀b,D b->D' b) (hD':∀b,D' b->b<w'.heap.size) (kE:∀b,D' b->D b∨w.heap.size<=b) (hι:∀id B,ι id=some B->ι' id=some B):gD P hs D' ι' g w':=by
 have hr:∀a v,cL P w D ι a v->cL P w' D' ι' a v:=fun a v h=>h.frame (fun b hd=>hb b (S.dead b hd)) hD hι
 have lt:∀{id r B},g id=some r->ι id=some B->B.b<w.heap.size:=fun {id r B} h hB=>by
  obtain⟨B',dD,R,_⟩:=S.row id r h
  rw[hB]at dD;injection dD with dD;subst dD
  exact R.lt
 refine⟨Nat.le_trans S.lo hz,hD',fun id r h=>?_,fun id kb r r' B B' h h' hw hB dD he=>?_⟩
 ·obtain⟨B,hB,R,h1,h2⟩:=S.row id r h
  exact⟨B,hι _ _ hB,R.frame (hb _ (lt h hB)) hr,h1,fun hw hd=>by
   rcases kE _ hd with hd|hd
   ·exact h2 hw hd
   ·have:=lt h hB;omega⟩
 ·obtain⟨C,hC,_⟩:=S.row id r h
  obtain⟨C',u9,_⟩:=S.row kb r' h'
  have e1:=hι _ _ hC
  have e2:=hι _ _ u9
  rw[hB]at e1;injection e1 with e1;subst e1
  rw[dD]at e2;injection e2 with e2;subst e2
  exact S.inj id kb r r' _ _ h h' hw hC u9 he
theorem Step.stay (S:gD P hs D ι g w) (hb:∀b,b<w.heap.size->w'.heap[b]? =w.heap[b]?) (hz:w.heap.size<=w'.heap.size) (e1:w'.os=w.os) (e2:w'.tape=w.tape) (e3:w'.output=w.output) (hD:∀b,D b->D' b) (kE:∀b,D' b->D b∨w.heap.size<=b) (hι:∀id B,ι id=some B->ι' id=some B):Step hs D ι w D' ι' w':=
 ⟨⟨e1,e2,e3,hz,fun k hk=>hb k (Nat.lt_of_lt_of_le hk S.lo)⟩,fun b hd=>hb b (S.dead b hd),hD,hι,fun b h=>(kE b h).imp_right (Nat.le_trans S.lo)⟩
theorem gD.alloc (S:gD P hs D ι g w) {cells:Array Value} {T:TypeId} {r:Row} (hh:w'.heap=w.heap.push (.cells cells T (0,0))) (hn:ι id=none) (hw:r.w=true) (h1:r.rows.length*r.sz<=cells.size) (h2:∀cs∈r.rows,cs.length=r.sz) (h3:∀cs∈r.rows,∀a∈cs,a.cell=true)
  (h4:∀i j cs a,r.rows[i]? =some cs->cs[j]? =some a->∃x,cells[i*r.sz+j]? =some x/\cL P w D ι a x):gD P hs D (kT ι id ⟨w.heap.size,r.sz,cells.size,none⟩) (bt g id r) w':=by
 have hb:∀b,b<w.heap.size->w'.heap[b]? =w.heap[b]? :=fun b dY=>by rw[hh,Array.getElem?_push,if_neg (by omega)]
 have hz:w.heap.size<=w'.heap.size:=by rw[hh];simp
 have S':=S.stay (D':=D) (ι':=kT ι id ⟨w.heap.size,r.sz,cells.size,none⟩) hb hz (fun _ h=>h) (fun b hd=>Nat.lt_of_lt_of_le (S.dead b hd) hz) (fun _ h=>.inl h) (fe hn)
 have hr:∀a v,cL P w D ι a v->cL P w' D (kT ι id ⟨w.heap.size,r.sz,cells.size,none⟩) a v:=fun a v h=>h.frame (fun b hd=>hb b (S.dead b hd)) (fun _ h=>h) (fe hn)
 have kE:w'.heap[w.heap.size]? =some (.cells cells T (0,0)):=by rw[hh];simp
 have gone:g id=none:=by
  cases hg:g id with
  |none=>rfl
  |some q=>
   obtain⟨B,hB,_⟩:=S.row id q hg
   rw[hn]at hB;cases hB
 have lt:∀{i q B},g i=some q->ι i=some B->B.b<w.heap.size:=fun {i q B} h hB=>by
  obtain⟨B',dD,R,_⟩:=S.row i q h
  rw[hB]at dD;injection dD with dD;subst dD
  exact R.lt
 refine⟨S'.lo,S'.dead,fun i q h=>?_,fun i i' q q' B B' h h' Jq hB dD he=>?_⟩
 ·unfold bt at h
  split at h
  ·rename_i e
   subst e
   injection h with h;subst h
   refine⟨_,eb _ _ _,lR.obj ⟨rfl,⟨cells,T,kE,rfl⟩,h1,h2,h3,fun k j cs a hk hj=>?_⟩ rfl,fun _=>S.lo,fun _ hd=>?_⟩
   ·obtain⟨x,hx,hrx⟩:=h4 k j cs a hk hj
    exact⟨x,by simp[World.cell?,kE,hx],hr _ _ hrx⟩
   ·have:=S.dead _ hd;simp at this
  ·exact S'.row i q h
 ·unfold bt at h h'
  split at h
  ·rename_i e
   split at h'
   ·rename_i e';exact e.trans e'.symm
   ·exfalso
    rename_i e'
    subst e
    rw[eb]at hB;injection hB with hB;subst hB
    rw[gr e']at dD
    have:=lt h' dD
    simp at he;omega
  ·rename_i e
   split at h'
   ·exfalso
    rename_i e'
    subst e'
    rw[eb]at dD;injection dD with dD;subst dD
    rw[gr e]at hB
    have:=lt h hB
    simp at he;omega
   ·exact S'.inj i i' q q' B B' h h' Jq hB dD he
theorem gD.put (S:gD P hs D ι g w) {r r':Row} {B:s9} {cur cur':Array Value} {T:TypeId} (hid:g id=some r) (hw:r.w=true) (hB:ι id=some B) (hblk:w.heap[B.b]? =some (.cells cur T (0,0))) (fw:cur'.size=cur.size)
  (h0:r'.w=true) (h1:r'.sz=r.sz) (h2:r'.rows.length*r'.sz<=B.C) (h3:∀cs∈r'.rows,cs.length=r'.sz) (h4:∀cs∈r'.rows,∀a∈cs,a.cell=true)
  (h5:∀i j cs a,r'.rows[i]? =some cs->cs[j]? =some a->∃v,cur'[i*r.sz+j]? =some v/\cL P w D ι a v):gD P hs D ι (bt g id r') (w.setRow B.b cur')/\Step hs D ι w D ι (w.setRow B.b cur'):=by
 obtain⟨B0,B6,RO,kD,mM⟩:=S.row id r hid
 rw[hB]at B6;injection B6 with B6;subst B6
 have xX:=RO.Mu hblk
 have R:=RO.row xX
 have hd:∀b,D b->(w.setRow B.b cur').heap[b]? =w.heap[b]? :=fun b hb=>setRow_other w B.b b cur' (by rintro rfl;exact mM hw hb)
 have hr:∀a v,cL P w D ι a v->cL P (w.setRow B.b cur') D ι a v:=fun a v h=>h.frame hd (fun _ h=>h) (fun _ _ h=>h)
 have hC:cur.size=B.C:=by
  obtain⟨c,T',h1,h2⟩:=R.ye
  rw[hblk]at h1;injection h1 with h1;injection h1 with h1 Ot;subst h1;exact h2
 refine⟨⟨by simpa using S.lo,fun b hb=>by simpa using S.dead b hb,fun i q h=>?_,fun i i' q q' C C' h h' Jq hC u9 he=>?_⟩,⟨⟨by simp,by simp,by simp,by simp,fun k hk=>setRow_other w B.b k cur' (by have:=kD hw;omega)⟩,hd,fun _ h=>h,fun _ _ h=>h,fun _ h=>.inl h⟩⟩
 ·unfold bt at h
  split at h
  ·rename_i e
   subst e
   injection h with h;subst h
   refine⟨B,hB,lR.obj ⟨by rw[h1];exact R.sz,⟨cur',T,setRow_heap w B.b cur cur' T _ hblk,by rw[fw];exact hC⟩,h2,h3,h4,fun k j cs a hk hj=>?_⟩ xX,fun _=>kD hw,fun _=>mM hw⟩
   obtain⟨v,hv,lW⟩:=h5 k j cs a hk hj
   exact⟨v,by rw[cell_setRow_same w B.b _ cur cur' T _ hblk,h1];exact hv,hr _ _ lW⟩
  ·rename_i e
   obtain⟨C,hC,RC,k1,k2⟩:=S.row i q h
   refine⟨C,hC,RC.frame (setRow_other w B.b C.b cur' (fun Nn=>e ?_)) hr,k1,k2⟩
   exact(S.inj id i r q B C hid h hw hB hC Nn.symm).symm
 ·unfold bt at h h'
  have get:∀j p,(if j=id then some r' else g j)=some p->∃p0,g j=some p0/\(p.w=true->p0.w=true):=fun j p hp=>by
   split at hp
   ·rename_i e;subst e;injection hp with hp;subst hp;exact⟨r,hid,fun _=>hw⟩
   ·exact⟨p,hp,fun h=>h⟩
  obtain⟨p,hp,Qu⟩:=get _ _ h
  obtain⟨p',OZ,_⟩:=get _ _ h'
  exact S.inj i i' p p' C C' hp OZ (Qu Jq) hC u9 he
theorem gD.rename (S:gD P hs D ι g w) {i:Id} {r:Row} {B:s9} (hi:g i=some r) (hw:r.w=true) (hB:ι i=some B) (hn:ι id=none):gD P hs D (kT ι id B) (bt (cw g i) id r) w:=by
 have S':=S.stay (w':=w) (D':=D) (ι':=kT ι id B) (fun _ _=>rfl) (Nat.le_refl _) (fun _ h=>h) S.dead (fun _ h=>.inl h) (fe hn)
 have ik:i≠id:=by rintro rfl;rw[hn]at hB;cases hB
 obtain⟨B1,Bk,R,k1,k2⟩:=S'.row i r hi
 rw[gr ik,hB]at Bk;injection Bk with Bk;subst Bk
 have get:∀j p,bt (cw g i) id r j=some p->(j=id/\p=r)∨(j≠id/\j≠i/\g j=some p):=fun j p hp=>by
  unfold bt cw at hp
  split at hp
  ·rename_i e;injection hp with hp;exact .inl ⟨e,hp.symm⟩
  ·rename_i e
   split at hp
   ·cases hp
   ·rename_i e';exact .inr ⟨e,e',hp⟩
 refine⟨S.lo,S.dead,fun j p h=>?_,fun j j' p p' C C' h h' Qu hC u9 he=>?_⟩
 ·rcases get j p h with⟨rfl,rfl⟩|⟨_,_,hp⟩
  ·exact⟨B,eb _ _ _,R,k1,k2⟩
  ·exact S'.row j p hp
 ·rcases get j p h with⟨rfl,rfl⟩|⟨q1,q2,hp⟩
  ·rcases get j' p' h' with⟨rfl,rfl⟩|⟨q1',q2',OZ⟩
   ·rfl
   ·exfalso
    rw[eb]at hC;injection hC with hC;subst hC
    rw[gr q1']at u9
    exact q2' (S.inj i j' p p' B C' hi OZ hw hB u9 he).symm
  ·rcases get j' p' h' with⟨rfl,rfl⟩|⟨q1',q2',OZ⟩
   ·exfalso
    rw[eb]at u9;injection u9 with u9;subst u9
    rw[gr q1]at hC
    exact q2 (S.inj j i p p' C B hp hi Qu hC hB he)
   ·rw[gr q1]at hC
    rw[gr q1']at u9
    exact S.inj j j' p p' C C' hp OZ Qu hC u9 he
def Dp (P:Program) (hs:Nat) (a:Act) (o:Oper) (w:World) (D:Nat->Prop) (ι:Names) (id:Id) (v:AV) (g':Rows):Prop:=
 ∃u w' ι',((execOp a.eval o).run P w=.ok (.value u) w'∨(execOp a.eval o).run P w=.ok .skip w'/\u=undef)/\Step hs D ι w D ι' w'/\gD P hs D ι' g' w'/\cL P w' D ι' v u/\∀i,i≠id->ι' i=ι i
theorem CQ {xs:List AV} {vs:Array Value} (h:fu P w D ι xs vs) (hf:∀a∈xs,a.cell=true):∀v∈vs.toList,v.oneCell'=true:=by
 intro v hv
 obtain⟨j,hj,rfl⟩:=List.getElem_of_mem hv
 have Ld:j<xs.length:=by rw[<-h.1];simpa using hj
 obtain⟨u,hu,hr⟩:=h.2 j _ (List.getElem?_eq_getElem Ld)
 have hc:=hr.BM (hf _ (List.getElem_mem Ld))
 have:vs.toList[j]=u:=by
  have:vs.toList[j]? =some u:=by simpa using hu
  rw[List.getElem?_eq_getElem hj]at this;injection this
 rw[this]
 cases u<;>simp_all [Value.oneCell']
theorem j0 {i j n m:Nat} (h:i<n) (hj:j<m):i*m+j<n*m:=by
 have:(i+1)*m<=n*m:=Nat.mul_le_mul_right _ h
 rw[Nat.add_mul,Nat.one_mul]at this;omega
theorem lR.cur {B:s9} {r:Row} (R:lR P w D ι B r):∃cur T,w.heap[B.b]? =some (.cells cur T (0,0))/\cur.size=B.C/\∀i j cs a,r.rows[i]? =some cs->cs[j]? =some a->∃v,cur[i*r.sz+j]? =some v/\cL P w D ι a v:=by
 obtain⟨cur,T,h1,h2⟩:=R.ye
 refine⟨cur,T,h1,h2,fun i j cs a hi hj=>?_⟩
 obtain⟨v,hv,hr⟩:=R.at_ i j cs a hi hj
 exact⟨v,by simpa[World.cell?,h1]using hv,hr⟩
theorem LD {t:TypeId} {n:Nat} {x y:Operand} {x' y':O} {g':Rows} (S:gD P hs D ι g w) (E:cu P w D ι env a) (ho:o.op=.store t x y) (hn:ec P t=some n) (hx:cO P x=some x') (hy:cO P y=some y')
  (hv:bV g n (cU env y') (cU env x')=some g'):Dp P hs a o w D ι id .undef g':=by
 have rx:=dp E hx
 have ry:=dp E hy
 unfold bV at hv
 split at hv
 ·rename_i i k off hp
  rw[hp]at rx
  simp only[Option.bind_eq_some_iff]at hv
  obtain⟨r,hg,cs,dx,hv⟩:=hv
  split at hv
  ·rename_i hc
   obtain⟨c1,c2,c3,c4⟩:=hc
   simp at hv;subst hv
   obtain⟨B,he,hB,hk⟩:=iL rx
   obtain⟨B',dD,R,kD,mM⟩:=S.row i r hg
   rw[hB]at dD;injection dD with dD;subst dD
   replace R:=R.row hk
   obtain⟨cur,T,hblk,hC,wU⟩:=R.cur
   have hL:=rH ry c3
   have h1:=CQ hL (List.all_eq_true.1 c3)
   have RV:(a.eval y).cells.size=n:=by rw[hL.1,c2]
   have mC:=(List.getElem?_eq_some_iff.1 dx).1
   have hlen:=R.len cs (List.mem_of_getElem? dx)
   have hbound:k*r.sz+r.sz<=r.rows.length*r.sz:=by
    have:(k+1)*r.sz<=r.rows.length*r.sz:=Nat.mul_le_mul_right _ mC
    rwa [Nat.add_mul,Nat.one_mul]at this
   have hf:=R.fits
   have dK:=run_storeCells_at P B.b (k*B.sz+off) T (a.eval y).cells.toList 0 cur w hblk (by rw[R.sz];simp only[Array.length_toList];omega) h1
   simp only[Nat.add_zero,Array.length_toList]at dK
   have w6:=S.put (r':={r with rows:=r.rows.set k (cN cs off (cU env y').cells)}) hg c1 hB hblk (cur':=(cur.toList.take (k*B.sz+off)++(a.eval y).cells.toList++cur.toList.drop (k*B.sz+off+(a.eval y).cells.size)).toArray)
    (by rw[R.sz];simp;omega) c1 rfl (by simpa using R.fits) (fun c UL=>by
     rcases List.mem_or_eq_of_mem_set UL with h|rfl
     ·exact R.len c h
     ·simp[cN];omega) (fun c UL b hb=>by
     rcases List.mem_or_eq_of_mem_set UL with h|rfl
     ·exact R.flat c h b hb
     ·unfold cN at hb
      rcases List.mem_append.1 hb with hb|hb
      ·rcases List.mem_append.1 hb with hb|hb
       ·exact R.flat cs (List.mem_of_getElem? dx) b (List.mem_of_mem_take hb)
       ·exact List.all_eq_true.1 c3 b hb
      ·exact R.flat cs (List.mem_of_getElem? dx) b (List.mem_of_mem_drop hb)) (fun i2 j c b y7 hj=>by
     rw[R.sz]
     simp only[List.getElem?_toArray]
     by_cases y8:i2=k
     ·subst y8
      rw[List.getElem?_set_self mC]at y7
      injection y7 with y7;subst y7
      unfold cN at hj
      by_cases hjo:j<off
      ·rw[List.append_assoc,List.getElem?_append_left (by simp;omega),List.getElem?_take,if_pos hjo]at hj
       rw[List.append_assoc,List.getElem?_append_left (by simp;omega),List.getElem?_take,if_pos (by omega)]
       simpa using wU _ _ _ _ dx hj
      ·by_cases iW:j<off+n
       ·rw[List.append_assoc,List.getElem?_append_right (by simp;omega),List.getElem?_append_left (by simp;omega)]at hj
        rw[List.append_assoc,List.getElem?_append_right (by simp;omega),List.getElem?_append_left (by simp;omega)]
        simp only[List.length_take]at hj ⊢
        rw[show j-min off cs.length=j-off by omega]at hj
        rw[show i2*r.sz+j-min (i2*r.sz+off) cur.toList.length=j-off by simp;omega]
        simpa using hL.2 _ _ hj
       ·rw[List.getElem?_append_right (by simp;omega)]at hj
        rw[List.getElem?_append_right (by simp;omega)]
        simp only[List.length_append,List.length_take,List.getElem?_drop,Array.length_toList]at hj ⊢
        rw[show off+(cU env y').cells.length+(j-(min off cs.length+(cU env y').cells.length))=j by omega]at hj
        rw[show i2*r.sz+off+(a.eval y).cells.size+(i2*r.sz+j-(min (i2*r.sz+off) cur.size+(a.eval y).cells.size))=i2*r.sz+j by omega]
        simpa using wU _ _ _ _ dx hj
     ·rw[List.getElem?_set_ne (fun e=>y8 e.symm)]at y7
      have hi2l:=(List.getElem?_eq_some_iff.1 y7).1
      have im:j<r.sz:=by rw[<-R.len c (List.mem_of_getElem? y7)];exact(List.getElem?_eq_some_iff.1 hj).1
      have:=wU _ _ _ _ y7 hj
      rcases Nat.lt_or_gt_of_ne y8 with dY|LS
      ·have h2:i2*r.sz+j<k*r.sz:=j0 dY im
       rw[List.append_assoc,List.getElem?_append_left (by simp;omega),List.getElem?_take,if_pos (by omega)]
       simpa using this
      ·have h2:k*r.sz+r.sz<=i2*r.sz:=by
        have:(k+1)*r.sz<=i2*r.sz:=Nat.mul_le_mul_right _ LS
        rwa [Nat.add_mul,Nat.one_mul]at this
       rw[List.getElem?_append_right (by simp;omega)]
       simp only[List.length_append,List.length_take,List.getElem?_drop,Array.length_toList]
       rw[show k*r.sz+off+(a.eval y).cells.size+(i2*r.sz+j-(min (k*r.sz+off) cur.size+(a.eval y).cells.size))=i2*r.sz+j by omega]
       simpa using this)
   refine⟨undef,_,ι,.inr ⟨?_,rfl⟩,w6.2,w6.1,cL.undef,fun _ _=>rfl⟩
   simp only[execOp,ho,he,Instr.storeAt,Instr.sureAddr,storeVar,Sem.run_bind,Sem.run_pure,Result.andThen_ok,run_sizeOf hn,RV,ne_eq,not_true_eq_false,if_false,dK]
  ·simp at hv
 ·simp at hv
end
end Go.Proofs.YtgoljkjaameagaaGreat.V

namespace Go.Proofs.YtgoljkjaameagaaGreat.V
open Go.RowKit
variable {P:Program} {w w':World} {D D':Nat->Prop} {ι ι':Names}
section
variable {g:Rows} {hs:Nat} {env:Env} {a:Act} {o:Oper} {id:Id} {v:AV}
theorem sL (S:gD P hs D ι g w) {y:AV} {u:Value} {ys:List (List AV)} {sz:Nat} (hr:cL P w D ι y u) (hy:br g y=some ys) (hl:∀c∈ys,c.length=sz) (hf:∀c∈ys,∀b∈c,b.cell=true):
  ∃A c,u=.slice A ys.length c/\(ys=[]∨∃b o,∃news:List Value,A=some ⟨b,o,none⟩/\news.length=ys.length*sz/\(∀j v,news[j]? =some v->w.cell? ⟨b,o+j,none⟩=some v)/\fu P w D ι ys.flatten news.toArray/\∀v∈news,v.oneCell'=true):=by
 have fin:∀b o,ys≠[]->(∀i j cs x,ys[i]? =some cs->cs[j]? =some x->∃v,w.cell? ⟨b,o+(i*sz+j),none⟩=some v/\cL P w D ι x v)->
   ∃news:List Value,news.length=ys.length*sz/\(∀j v,news[j]? =some v->w.cell? ⟨b,o+j,none⟩=some v)/\fu P w D ι ys.flatten news.toArray/\∀v∈news,v.oneCell'=true:=by
  intro b o _ h
  have hlen:=IW hl
  have at_:∀k,k<ys.length*sz->∃x,ys.flatten[k]? =some x/\∃v,w.cell? ⟨b,o+k,none⟩=some v/\cL P w D ι x v:=by
   intro k hk
   have kF:0<sz:=by
    rcases Nat.eq_zero_or_pos sz with h0|h0
    ·subst h0;simp at hk
    ·exact h0
   have hi:k / sz<ys.length:=Nat.div_lt_of_lt_mul (by rw[Nat.mul_comm];exact hk)
   have hj:k % sz<sz:=Nat.mod_lt _ kF
   have dx:=List.getElem?_eq_getElem hi
   have im:k % sz<ys[k / sz].length:=by rw[hl _ (List.getElem_mem hi)];exact hj
   have hx:=List.getElem?_eq_getElem im
   have e:k / sz*sz+k % sz=k:=by rw[Nat.mul_comm];exact Nat.div_add_mod _ _
   refine⟨_,by rw[<-flat_get hl dx hx,e],?_⟩
   obtain⟨v,hv,lW⟩:=h _ _ _ _ dx hx
   rw[e]at hv
   exact⟨v,hv,lW⟩
  let news:=(List.range (ys.length*sz)).map fun k=>(w.cell? ⟨b,o+k,none⟩).getD undef
  have hn:∀k,k<ys.length*sz->∀v,w.cell? ⟨b,o+k,none⟩=some v->news[k]? =some v:=fun k hk v hv=>by
   simp only[news,List.getElem?_map,List.getElem?_range hk,Option.map_some,hv,Option.getD_some]
  have hR:fu P w D ι ys.flatten news.toArray:=⟨by simp[news,hlen],fun j x hx=>by
   have im:=(List.getElem?_eq_some_iff.1 hx).1
   rw[hlen]at im
   obtain⟨x',vP,v,hv,lW⟩:=at_ j im
   rw[hx]at vP;injection vP with vP;subst vP
   exact⟨v,by simpa using hn j im v hv,lW⟩⟩
  refine⟨news,by simp[news],fun j v hj=>?_,hR,?_⟩
  ·have im:j<ys.length*sz:=by have:=(List.getElem?_eq_some_iff.1 hj).1;simpa[news]using this
   obtain⟨x,_,v',oG,_⟩:=at_ j im
   rw[hn j im v' oG]at hj
   injection hj with hj
   rw[<-hj];exact oG
  ·have:=CQ hR (fun x hx=>by
    obtain⟨c,hc,VB⟩:=List.mem_flatten.1 hx
    exact hf c hc x VB)
   simpa using this
 unfold br at hy
 split at hy
 ·simp at hy;subst hy
  exact⟨none,0,kn hr,.inl rfl⟩
 ·rename_i rows
  simp at hy;subst hy
  obtain⟨A,c,he,_,_,h3⟩:=xz hr
  refine⟨A,c,he,?_⟩
  rcases h3 with h3|⟨b,oo,sz',vs,rfl,hD,Lf,_,hc,hi⟩
  ·exact .inl h3
  ·by_cases h0:rows=[]
   ·exact .inl h0
   ·have Ce:sz'=sz:=by
     cases rows with
     |nil=>exact(h0 rfl).elim
     |cons c r=>rw[<-Lf c (by simp),hl c (by simp)]
    subst Ce
    obtain⟨news,q1,q2,q3,q4⟩:=fin b oo h0 (fun i j cs x dx hx=>⟨_,hc i j (List.getElem?_eq_some_iff.1 dx).1 (by rw[<-Lf cs (List.mem_of_getElem? dx)];exact(List.getElem?_eq_some_iff.1 hx).1),.eP _ _ (hi i j cs x dx hx)⟩)
    exact .inr ⟨b,oo,news,rfl,q1,q2,q3,q4⟩
 ·rename_i i off len
  simp only[Option.bind_eq_some_iff]at hy
  obtain⟨r,hg,hy⟩:=hy
  split at hy
  ·rename_i hle
   simp at hy;subst hy
   obtain⟨oo,cap,B,he,hB,h1,h2,h3,h4,hk⟩:=jb hr
   obtain⟨B',dD,R,_,_⟩:=S.row i r hg
   rw[hB]at dD;injection dD with dD;subst dD
   replace R:=R.row hk
   have hlen:((r.rows.drop off).take len).length=len:=by simp;omega
   refine⟨some ⟨B.b,oo,none⟩,cap,by rw[hlen];exact he,?_⟩
   by_cases h0:(r.rows.drop off).take len=[]
   ·exact .inl h0
   ·have Ce:r.sz=sz:=by
     cases hq:(r.rows.drop off).take len with
     |nil=>exact(h0 hq).elim
     |cons c q=>
      have hm:c∈(r.rows.drop off).take len:=by rw[hq];simp
      rw[<-hl c hm,R.len c (List.mem_of_mem_drop (List.mem_of_mem_take hm))]
    have hlp:0<len:=by rw[<-hlen];exact List.length_pos_iff.2 h0
    have Dd:oo=off*B.sz:=by rcases h2 with h2|h2<;>omega
    obtain⟨news,q1,q2,q3,q4⟩:=fin B.b oo h0 (fun i2 j cs x dx hx=>by
     rw[List.getElem?_take]at dx
     split at dx
     ·rw[List.getElem?_drop]at dx
      obtain⟨v,hv,lW⟩:=R.at_ _ _ _ _ dx hx
      refine⟨v,?_,lW⟩
      rw[Dd,R.sz,<-Ce]
      rw[Nat.add_mul]at hv
      rw[<-Nat.add_assoc]
      exact hv
     ·simp at dx)
    exact .inr ⟨B.b,oo,news,rfl,q1,q2,q3,q4⟩
  ·simp at hy
 ·simp at hy
theorem pM {t ty e:TypeId} {i:TypeInfo} (ht:P.underlying t=some (.slice e)) (hi:P.info? e=some i) (A:Option Addr) (n c:Nat) (hn:n<=c) (B:Option Addr) (d:Nat):
  (Builtin.append_ #[t,t] ty #[.slice A n c,.slice B 0 d]).run P w=.ok (.slice A n c) w:=by
 have hf:(Builtin.firstCells i.size 0 (.slice B 0 d)).run P w=.ok #[] w:=by
  cases B<;>simp[Builtin.firstCells,loadCells,loadCellsFrom]
 cases A with
 |none=>simp[Builtin.append_,run_underlying ht,sizeOf,typeInfo,hi,Builtin.lenOf,hn,hf]
 |some A=>simp[Builtin.append_,run_underlying ht,sizeOf,typeInfo,hi,Builtin.lenOf,hn,hf,storeCells]
theorem yE {t ty e T:TypeId} {i:TypeInfo} (ht:P.underlying t=some (.slice e)) (hi:P.info? e=some i) (b sO EN:Nat) (cur:Array Value) (hg:w.heap[b]? =some (.cells cur T (0,0)))
  (x:Addr) (m c:Nat) (news:List Value) (hl:news.length=m*i.size) (RE:∀j u,news[j]? =some u->w.cell? (x.add j)=some u) (h1:∀u∈news,u.oneCell'=true)
  (fX:sO+m<=EN) (tD:sO*i.size+news.length<=cur.size):
  (Builtin.append_ #[t,t] ty #[.slice (some ⟨b,0,none⟩) sO EN,.slice (some x) m c]).run P w=
   .ok (.slice (some ⟨b,0,none⟩) (sO+m) EN) (w.setRow b (cur.toList.take (sO*i.size)++news++cur.toList.drop (sO*i.size+news.length)).toArray):=by
 have hf:=run_firstCells_some (P:=P) w i.size m x m c news hl RE
 have dK:=run_storeCells_at P b (sO*i.size) T news 0 cur w hg (by simpa using tD) h1
 simp only[Nat.add_zero]at dK
 simp[Builtin.append_,run_underlying ht,sizeOf,typeInfo,hi,Builtin.lenOf,fX,hf,kr,dK]
theorem B5 (w:World) (Hg zx:Nat) (e:TypeId) (h:Hg<=dH):Hg<=grownCap w Hg zx e/\grownCap w Hg zx e<=maxLen:=by
 unfold dH at h
 simp only[grownCap,Question.cut,maxLen]
 have:=Nat.mod_lt (w.tape w.drawn (.appendCap Hg zx e)) (show 0<2 ^ 63-Hg by omega)
 omega
theorem gh {x y:Operand} {t:TypeId} {u:Value} (ho:o.op=.call {callee:=.builtin .append,args:= #[x,y],argTypes:= #[t,t]}) (h:(Builtin.append_ #[t,t] o.type #[a.eval x,a.eval y]).run P w=.ok u w'):(execOp a.eval o).run P w=.ok (.value u) w':=by
 simp only[execOp,ho,resolve,Sem.run_bind,Sem.run_pure,Result.andThen_ok,invoke,builtin]
 simp only[List.map_toArray,List.map_cons,List.map_nil]
 rw[h];rfl
theorem CY {T:TypeId} (S:gD P hs D ι g w) (cells:Array Value) (hn:ι id=none) (B:s9):Step hs D ι w D (kT ι id B) (w.drew.alloc (.cells cells T)):=
 Step.stay S (fun k hk=>by show(w.heap.push _)[k]? = _;rw[Array.getElem?_push,if_neg (by omega)]) (by show _<=(w.heap.push _).size;simp) rfl rfl rfl (fun _ h=>h) (fun _ h=>.inl h) (fe hn)
theorem IG {x y:Operand} {x' y':O} {t e:TypeId} {m:Nat} {z:List K} {i:TypeInfo} {ys:List (List AV)} {g':Rows} (S:gD P hs D ι g w) (E:cu P w D ι env a) (hn:ι id=none) (ho:o.op=.call {callee:=.builtin .append,args:= #[x,y],argTypes:= #[t,t]})
  (ht:P.underlying t=some (.slice e)) (fw:ec P e=some (m+1)) (hz:jO P e=some z) (hi:P.info? e=some i) (hby:i.bytes<=32768) (hx:cO P x=some x') (hy:cO P y=some y') (FQ:br g (cU env y')=some ys)
  (hv:aZ g id (m+1) (cU env x') ys=some (v,g')):Dp P hs a o w D ι id v g':=by
 have rx:=dp E hx
 have ry:=dp E hy
 obtain⟨it,zv,rN,qE,QE,hm,FR⟩:=j8 hz
 rw[hi]at rN;injection rN with rN;subst rN
 have jI:i.size=m+1:=by simpa[ec,hi]using fw
 have fits:∀n,n<=dH->n*i.bytes<=140737488355328:=fun n h=>by
  unfold dH at h
  have:=Nat.mul_le_mul h hby
  omega
 have e63:∀n,n<=dH->(n:Int)<=9223372036854775807:=fun n h=>by unfold dH at h;omega
 have same:∀(w1:World) (cells:Array Value),w1=w.drew.alloc (.cells cells e)->w1.heap=w.heap.push (.cells cells e (0,0)):=fun w1 cells h=>by subst h;rfl
 have QQ:∀l:List (List AV),(l.all fun c=>c.length==m+1&&c.all AV.cell)=true->(∀c∈l,c.length=m+1)/\∀c∈l,∀b∈c,b.cell=true:=fun l h=>by
  rw[List.all_eq_true]at h
  refine⟨fun c hc=>?_,fun c hc b hb=>?_⟩
  ·have:=h c hc;simp at this;exact this.1
  ·have:=h c hc;simp at this;exact this.2 b hb
 unfold aZ at hv
 split at hv
 ·rename_i hb
  rw[hb]at rx
  have ex:=kn rx
  split at hv
  ·simp at hv
   obtain⟨rfl,rfl⟩:=hv
   obtain⟨A,c,ey,_⟩:=sL (sz:=m+1) S ry FQ (fun c h=>by cases h) (fun c h=>by cases h)
   refine⟨_,w,ι,.inl (gh ho (by rw[ex,ey];exact pM ht hi none 0 0 (Nat.le_refl _) A c)),Step.refl _ _ _ _,S,.eP _ _ .cC,fun _ _=>rfl⟩
  ·rename_i y0 yr
   split at hv
   ·rename_i hc
    simp only[Option.some.injEq,Prod.mk.injEq]at hv
    obtain⟨rfl,rfl⟩:=hv
    obtain⟨hl,hf⟩:=QQ _ hc.2
    obtain⟨A,c,ey,h2⟩:=sL (sz:=m+1) S ry FQ hl hf
    rcases h2 with h2|⟨b,oo,news,rfl,q1,q2,q3,q4⟩
    ·cases h2
    have gm:=run_append_nil (P:=P) w t o.type e i zv ht hi qE ⟨b,oo,none⟩ (y0::yr).length c news (by rw[jI];exact q1) (fun j v hj=>by rw[kr];exact q2 j v hj) (by simp) (e63 _ hc.1) (by have:=fits _ hc.1;omega)
    obtain⟨g1,g2⟩:=B5 w (y0::yr).length 0 e hc.1
    have dx:(news.toArray++Builtin.zeroCells zv.cells (grownCap w (y0::yr).length 0 e-(y0::yr).length)).size=grownCap w (y0::yr).length 0 e*(m+1):=by
     rw[Array.size_append,size_zeroCells,QE,jI]
     simp only[List.size_toArray,q1]
     rw[<-Nat.add_mul];congr 1;omega
    have S1:=S.alloc (w':=w.drew.alloc (.cells (news.toArray++Builtin.zeroCells zv.cells (grownCap w (y0::yr).length 0 e-(y0::yr).length)) e)) (r:=⟨true,m+1,y0::yr⟩) rfl hn rfl (by rw[dx];exact Nat.mul_le_mul_right _ g1) hl hf
     (fun k j cs b2 hk hj=>by
      obtain⟨u,hu,yu⟩:=q3.2 _ _ (flat_get hl hk hj)
      refine⟨u,?_,yu⟩
      have dY:=(Array.getElem?_eq_some_iff.1 hu).1
      dsimp only
      rw[Array.getElem?_append_left dY];exact hu)
    have dK:=CY (T:=e) S (news.toArray++Builtin.zeroCells zv.cells (grownCap w (y0::yr).length 0 e-(y0::yr).length)) hn ⟨w.heap.size,m+1,(news.toArray++Builtin.zeroCells zv.cells (grownCap w (y0::yr).length 0 e-(y0::yr).length)).size,none⟩
    refine⟨_,_,_,.inl (gh ho (by rw[ex,ey];exact gm)),dK,S1,?_,fun _ h=>gr h⟩
    refine .own _ _ _ _ _ _ (eb _ _ _) rfl g1 (.inr (by simp)) ?_ g2
    dsimp only;rw[dx];simp
   ·simp at hv
 ·rename_i i0 len hb
  rw[hb]at rx
  simp only[Option.bind_eq_some_iff]at hv
  obtain⟨r,hg,hv⟩:=hv
  split at hv
  ·rename_i hc
   obtain⟨c1,c2,c3,c4,c5⟩:=hc
   simp only[Option.some.injEq,Prod.mk.injEq]at hv
   obtain⟨rfl,rfl⟩:=hv
   obtain⟨hl,hf⟩:=QQ _ c5
   obtain⟨A,c,ey,h2⟩:=sL (sz:=m+1) S ry FQ hl hf
   obtain⟨oo,cap,B,ex,hB,h1,Dd,h3,h4,hk⟩:=jb rx
   obtain⟨B',dD,R,kD,mM⟩:=S.row _ _ hg
   rw[hB]at dD;injection dD with dD;subst dD
   replace R:=R.row hk
   have IZ:B.sz=m+1:=R.sz.trans c2
   have Au:∀cs∈r.rows++ys,cs.length=m+1:=fun cs dx=>by
    rcases List.mem_append.1 dx with h|h
    ·rw[<-c2];exact R.len cs h
    ·exact hl cs h
   have Nf:∀cs∈r.rows++ys,∀b∈cs,b.cell=true:=fun cs dx=>by
    rcases List.mem_append.1 dx with h|h
    ·exact R.flat cs h
    ·exact hf cs h
   rcases h2 with rfl|⟨yb,yo,news,rfl,q1,q2,q3,q4⟩
   ·have GU:=S.rename hg c1 hB hn
    refine⟨_,w,kT ι id B,.inl (gh ho (by rw[ex,ey];exact pM ht hi _ _ _ h1 A c)),⟨Below.refl _ _,fun _ _=>rfl,fun _ h=>h,fe hn,fun _ h=>.inl h⟩,?_,?_,fun _ h=>gr h⟩
    ·have:(⟨true,m+1,r.rows++[]⟩:Row)=r:=by cases r;simp_all
     rw[this];exact GU
    ·simp only[List.length_nil,Nat.add_zero]
     exact .own _ _ _ _ _ B (eb _ _ _) hk h1 Dd h3 h4
   ·obtain⟨cur,T,hblk,hC,wU⟩:=R.cur
    by_cases fX:len+ys.length<=cap
    ·have To:ys≠[]->oo=0:=fun h=>by
      rcases Dd with Dd|Dd
      ·have:=List.length_pos_iff.2 h;omega
      ·simpa using Dd
     by_cases hy0:ys=[]
     ·subst hy0
      have GU:=S.rename hg c1 hB hn
      refine⟨_,w,kT ι id B,.inl (gh ho (by rw[ex,ey];exact pM ht hi _ _ _ h1 _ c)),⟨Below.refl _ _,fun _ _=>rfl,fun _ h=>h,fe hn,fun _ h=>.inl h⟩,?_,?_,fun _ h=>gr h⟩
      ·have:(⟨true,m+1,r.rows++[]⟩:Row)=r:=by cases r;simp_all
       rw[this];exact GU
      ·simp only[List.length_nil,Nat.add_zero]
       exact .own _ _ _ _ _ B (eb _ _ _) hk h1 Dd h3 h4
     have ho0:=To hy0
     subst ho0
     have tD:len*i.size+news.length<=cur.size:=by
      rw[jI,q1,hC,<-Nat.add_mul]
      refine Nat.le_trans ?_ h3
      rw[IZ,Nat.zero_add]
      exact Nat.mul_le_mul_right _ fX
     have gm:=yE (ty:=o.type) ht hi B.b len cap cur hblk ⟨yb,yo,none⟩ ys.length c news (by rw[jI];exact q1) (fun j v hj=>by rw[kr];exact q2 j v hj) q4 fX tD
     have nz:cur.toList.length=cur.size:=Array.length_toList
     simp only[jI]at gm tD
     obtain⟨P1,P2⟩:=S.put (r':=⟨true,m+1,r.rows++ys⟩) hg c1 hB hblk (cur':=(cur.toList.take (len*(m+1))++news++cur.toList.drop (len*(m+1)+news.length)).toArray) (by simp only[List.size_toArray,List.length_append,List.length_take,List.length_drop,nz];omega) rfl c2.symm
      (by dsimp only;rw[List.length_append,<-c3,<-IZ];refine Nat.le_trans (Nat.mul_le_mul_right _ fX) (Nat.le_trans (by simp) h3)) Au Nf (fun k j cs b2 hk hj=>by
       simp only[List.getElem?_toArray]
       have im:j<m+1:=by rw[<-Au cs (List.mem_of_getElem? hk)];exact(List.getElem?_eq_some_iff.1 hj).1
       rw[c2]
       by_cases mC:k<r.rows.length
       ·rw[List.getElem?_append_left mC]at hk
        have h2:k*(m+1)+j<len*(m+1):=j0 (by omega) im
        rw[List.append_assoc,List.getElem?_append_left (by simp only[List.length_take,nz];omega),List.getElem?_take,if_pos h2]
        have:=wU k j cs b2 hk hj
        rw[c2]at this;simpa using this
       ·rw[List.getElem?_append_right (by omega)]at hk
        have wY:=(List.getElem?_eq_some_iff.1 hk).1
        have rf:len*(m+1)<=k*(m+1):=Nat.mul_le_mul_right _ (by omega)
        have rj:k*(m+1)+j-len*(m+1)=(k-r.rows.length)*(m+1)+j:=by
         rw[<-c3,Nat.sub_mul];omega
        obtain⟨u,hu,yu⟩:=q3.2 _ _ (flat_get hl hk hj)
        refine⟨u,?_,yu⟩
        have FO:news[(k-r.rows.length)*(m+1)+j]? =some u:=by simpa using hu
        have dY:=(List.getElem?_eq_some_iff.1 FO).1
        rw[List.append_assoc,List.getElem?_append_right (by simp only[List.length_take,nz];omega),List.getElem?_append_left (by simp only[List.length_take,nz];omega)]
        rw[<-FO]
        congr 1
        simp only[List.length_take,nz]
        omega)
     have eF:bt (cw (bt g i0 ⟨true,m+1,r.rows++ys⟩) i0) id ⟨true,m+1,r.rows++ys⟩=bt (cw g i0) id ⟨true,m+1,r.rows++ys⟩:=by
      funext q;simp only[bt,cw]
      by_cases h:q=id<;>by_cases h':q=i0<;>simp[h,h']
     have GU:=P1.rename (i:=i0) (id:=id) (r:=⟨true,m+1,r.rows++ys⟩) (by simp[bt]) rfl hB hn
     rw[eF]at GU
     refine⟨_,_,_,.inl (gh ho (by rw[ex,ey];exact gm)),P2.trans ⟨Below.refl _ _,fun _ _=>rfl,fun _ h=>h,fe hn,fun _ h=>.inl h⟩,GU,?_,fun _ h=>gr h⟩
     exact .own _ _ _ _ _ B (eb _ _ _) hk fX (.inr (by simp)) h3 h4
    ·
     have holds:∃vh:List Value,vh.length=len*(m+1)/\(∀j v,vh[j]? =some v->w.cell? ⟨B.b,oo+j,none⟩=some v)/\fu P w D ι r.rows.flatten vh.toArray:=by
      obtain⟨A2,c2',e2,h2⟩:=sL (sz:=m+1) (u:=.slice (some ⟨B.b,oo,none⟩) len cap) S (.own i0 0 len oo cap B hB hk h1 Dd h3 h4) (ys:=r.rows) (by simp[br,hg,c3]) (fun cs h=>by rw[<-c2];exact R.len cs h) R.flat
      rcases h2 with h2|⟨b2,o2,vh,rfl,p1,p2,p3,_⟩
      ·refine⟨[],by simp[c3,h2],fun j v h=>by simp at h,by rw[h2];exact⟨rfl,fun j a h=>by simp at h⟩⟩
      ·injection e2 with e2 _ _
       injection e2 with e2
       injection e2 with e21 e22 _
       subst e21;subst e22
       exact⟨vh,by rw[p1,c3],p2,p3⟩
     obtain⟨vh,p1,p2,p3⟩:=holds
     have gm:=run_append_grow (P:=P) w t o.type e i zv ht hi qE ⟨B.b,oo,none⟩ len cap vh (by rw[jI];exact p1) (fun j v hj=>by rw[kr];exact p2 j v hj) ⟨yb,yo,none⟩ ys.length c news (by rw[jI];exact q1) (fun j v hj=>by rw[kr];exact q2 j v hj) (by omega) (e63 _ c4) (growslice_fits (by omega) (fits _ c4))
     obtain⟨g1,g2⟩:=B5 w (len+ys.length) cap e c4
     have dx:(vh.toArray++news.toArray++Builtin.zeroCells zv.cells (grownCap w (len+ys.length) cap e-(len+ys.length))).size=grownCap w (len+ys.length) cap e*(m+1):=by
      rw[Array.size_append,Array.size_append,size_zeroCells,QE,jI]
      simp only[List.size_toArray,q1,p1]
      rw[<-Nat.add_mul,<-Nat.add_mul];congr 1;omega
     have S1:=(S.kill i0).alloc (id:=id) (w':=w.drew.alloc (.cells (vh.toArray++news.toArray++Builtin.zeroCells zv.cells (grownCap w (len+ys.length) cap e-(len+ys.length))) e)) (r:=⟨true,m+1,r.rows++ys⟩) rfl hn rfl (by dsimp only;rw[dx,List.length_append,<-c3];exact Nat.mul_le_mul_right _ g1) Au Nf
      (fun k j cs b2 hk hj=>by
       have LR:=flat_get Au hk hj
       rw[List.flatten_append]at LR
       have L0:vh.length=r.rows.flatten.length:=by have:=p3.1;simpa using this
       dsimp only
       by_cases dY:k*(m+1)+j<r.rows.flatten.length
       ·rw[List.getElem?_append_left dY]at LR
        obtain⟨u,hu,yu⟩:=p3.2 _ _ LR
        refine⟨u,?_,yu⟩
        rw[Array.getElem?_append_left (by simp;omega),Array.getElem?_append_left (by simp;omega)];exact hu
       ·rw[List.getElem?_append_right (by omega)]at LR
        obtain⟨u,hu,yu⟩:=q3.2 _ _ LR
        refine⟨u,?_,yu⟩
        have Cb:=(Array.getElem?_eq_some_iff.1 hu).1
        simp only[List.size_toArray]at Cb
        rw[Array.getElem?_append_left (by simp;omega),Array.getElem?_append_right (by simp;omega)]
        simp only[List.size_toArray,L0];exact hu)
     have dK:=CY (T:=e) S (vh.toArray++news.toArray++Builtin.zeroCells zv.cells (grownCap w (len+ys.length) cap e-(len+ys.length))) hn ⟨w.heap.size,m+1,(vh.toArray++news.toArray++Builtin.zeroCells zv.cells (grownCap w (len+ys.length) cap e-(len+ys.length))).size,none⟩
     refine⟨_,_,_,.inl (gh ho (by rw[ex,ey];exact gm)),dK,S1,?_,fun _ h=>gr h⟩
     refine .own _ _ _ _ _ _ (eb _ _ _) rfl g1 (.inr (by simp)) ?_ g2
     dsimp only;rw[dx];simp
  ·simp at hv
 ·simp at hv
theorem lu {x:Operand} {t:TypeId} {u:Value} (ho:o.op=.call {callee:=.builtin .clear,args:= #[x],argTypes:= #[t]}) (h:(Builtin.clear_ #[t] o.type #[a.eval x]).run P w=.ok u w'):(execOp a.eval o).run P w=.ok (.value u) w':=by
 simp only[execOp,ho,resolve,Sem.run_bind,Sem.run_pure,Result.andThen_ok,invoke,builtin]
 simp only[List.map_toArray,List.map_cons,List.map_nil]
 rw[h];rfl
theorem LC {x:Operand} {x':O} {t e:TypeId} {m:Nat} {z:List K} {g':Rows} (S:gD P hs D ι g w) (E:cu P w D ι env a) (ho:o.op=.call {callee:=.builtin .clear,args:= #[x],argTypes:= #[t]})
  (ht:P.underlying t=some (.slice e)) (fw:ec P e=some (m+1)) (hz:jO P e=some z) (hx:cO P x=some x') (hv:bK g z (cU env x')=some g'):Dp P hs a o w D ι id .undef g':=by
 have rx:=dp E hx
 obtain⟨it,zv,hi,qE,QE,hm,FR⟩:=j8 hz
 have jI:it.size=m+1:=by simpa[ec,hi]using fw
 unfold bK at hv
 split at hv
 ·rename_i hb
  rw[hb]at rx
  simp at hv;subst hv
  refine⟨undef,w,ι,.inl (lu ho (by rw[kn rx];simp only[Builtin.clear_,Sem.run_bind];simp[run_underlying ht,undef])),Step.refl _ _ _ _,S,cL.undef,fun _ _=>rfl⟩
 ·rename_i i off len hb
  rw[hb]at rx
  simp only[Option.bind_eq_some_iff]at hv
  obtain⟨r,hg,hv⟩:=hv
  split at hv
  ·rename_i hc
   obtain⟨c1,c2,c3⟩:=hc
   simp only[Option.some.injEq]at hv;subst hv
   obtain⟨oo,cap,B,ex,hB,h1,h2,h3,h4,hk⟩:=jb rx
   obtain⟨B',dD,R,kD,mM⟩:=S.row _ _ hg
   rw[hB]at dD;injection dD with dD;subst dD
   replace R:=R.row hk
   obtain⟨cur,T,hblk,hC,wU⟩:=R.cur
   by_cases h0:len=0
   ·subst h0
    have e1:({r with rows:=r.rows.take off++List.replicate 0 (z.map K.av)++r.rows.drop (off+0)}:Row)=r:=by cases r;simp
    rw[e1]
    have e2:bt g i r=g:=by
     funext q;unfold bt;split
     ·rename_i h;rw[h,hg]
     ·rfl
    rw[e2]
    refine⟨undef,w,ι,.inl (lu ho (by rw[ex];simp only[Builtin.clear_,Sem.run_bind];simp[run_underlying ht,undef])),Step.refl _ _ _ _,S,cL.undef,fun _ _=>rfl⟩
   ·have Di:oo=off*B.sz:=by rcases h2 with h2|h2<;>omega
    have IZ:B.sz=m+1:=by rw[R.sz,c2,FR,jI]
    have zb:r.sz=m+1:=by rw[<-R.sz,IZ]
    have R3:zv.cells.size=m+1:=by rw[QE,jI]
    have zf:(Builtin.zeroCells zv.cells len).toList.length=len*(m+1):=by rw[Array.length_toList,size_zeroCells,R3]
    have R0:∀k,k<len*(m+1)->∃c,z[k % z.length]? =some c/\(Builtin.zeroCells zv.cells len).toList[k]? =some c.val:=fun k hk=>by
     obtain⟨c,qD,GL⟩:=pU (n:=len*zv.cells.size) hm (by rw[FR,jI];omega) k (by rw[R3];exact hk)
     exact⟨c,qD,by rw[Array.getElem?_toList];exact GL⟩
    have hbound:(off+len)*(m+1)<=r.rows.length*(m+1):=Nat.mul_le_mul_right _ c3
    have B9:=R.fits
    rw[zb]at B9
    have UQ:(off+len)*(m+1)=off*(m+1)+len*(m+1):=Nat.add_mul _ _ _
    have dK:=run_storeCells_at P B.b oo T (Builtin.zeroCells zv.cells len).toList 0 cur w hblk (by rw[zf,hC,Di,IZ];omega) (by
     intro v hv
     obtain⟨k,hk,rfl⟩:=List.getElem_of_mem hv
     obtain⟨c,_,GL⟩:=R0 k (by rw[<-zf];exact hk)
     rw[List.getElem?_eq_getElem hk]at GL
     injection GL with GL
     rw[GL];cases c<;>rfl)
    simp only[Nat.add_zero]at dK
    have nz:cur.toList.length=cur.size:=Array.length_toList
    obtain⟨P1,P2⟩:=S.put (r':={r with rows:=r.rows.take off++List.replicate len (z.map K.av)++r.rows.drop (off+len)}) hg c1 hB hblk (cur':=(cur.toList.take oo++(Builtin.zeroCells zv.cells len).toList++cur.toList.drop (oo+(Builtin.zeroCells zv.cells len).toList.length)).toArray)
     (by simp only[List.size_toArray,List.length_append,List.length_take,List.length_drop,nz,zf];rw[Di,IZ];omega) c1 rfl (by
      have:(r.rows.take off++List.replicate len (z.map K.av)++r.rows.drop (off+len)).length=r.rows.length:=by simp;omega
      dsimp only;rw[this];exact R.fits) (fun cs dx=>by
      rcases List.mem_append.1 dx with h|h
      ·rcases List.mem_append.1 h with h|h
       ·exact R.len cs (List.mem_of_mem_take h)
       ·rw[List.eq_of_mem_replicate h];simp[c2]
      ·exact R.len cs (List.mem_of_mem_drop h)) (fun cs dx b hb=>by
      rcases List.mem_append.1 dx with h|h
      ·rcases List.mem_append.1 h with h|h
       ·exact R.flat cs (List.mem_of_mem_take h) b hb
       ·rw[List.eq_of_mem_replicate h]at hb
        obtain⟨c,_,rfl⟩:=List.mem_map.1 hb;exact c.nu
      ·exact R.flat cs (List.mem_of_mem_drop h) b hb) (fun k j cs b hk hj=>by
      simp only[List.getElem?_toArray]
      rw[zb]
      rw[Di,IZ,zf]
      by_cases xY:k<off
      ·rw[List.append_assoc,List.getElem?_append_left (by simp;omega),List.getElem?_take,if_pos xY]at hk
       have im:j<m+1:=by rw[<-zb,<-R.len cs (List.mem_of_getElem? hk)];exact(List.getElem?_eq_some_iff.1 hj).1
       have h2:=j0 xY im
       rw[List.append_assoc,List.getElem?_append_left (by simp only[List.length_take,nz];omega),List.getElem?_take,if_pos h2]
       have:=wU k j cs b hk hj
       rw[zb]at this;simpa using this
      ·by_cases wY:k<off+len
       ·rw[List.append_assoc,List.getElem?_append_right (by simp;omega),List.getElem?_append_left (by simp;omega)]at hk
        have gQ:=List.eq_of_mem_replicate (List.mem_of_getElem? hk)
        subst gQ
        simp only[List.getElem?_map,Option.map_eq_some_iff]at hj
        obtain⟨q,hq,rfl⟩:=hj
        have im:=(List.getElem?_eq_some_iff.1 hq).1
        rw[FR,jI]at im
        have rf:off*(m+1)<=k*(m+1):=Nat.mul_le_mul_right _ (by omega)
        have rj:k*(m+1)+j-off*(m+1)=(k-off)*(m+1)+j:=by rw[Nat.sub_mul];omega
        have Cb:(k-off)*(m+1)+j<len*(m+1):=j0 (by omega) im
        rw[List.append_assoc,List.getElem?_append_right (by simp only[List.length_take,nz];omega),List.getElem?_append_left (by simp only[List.length_take,nz,zf];omega)]
        obtain⟨c,qD,GL⟩:=R0 _ Cb
        rw[FR,jI,Nat.mul_comm (k-off),Nat.mul_add_mod,Nat.mod_eq_of_lt im,hq]at qD
        injection qD with qD;subst qD
        refine⟨q.val,?_,xw q⟩
        rw[<-GL]
        congr 1
        simp only[List.length_take,nz];omega
       ·rw[List.getElem?_append_right (by simp;omega)]at hk
        simp only[List.length_append,List.length_take,List.length_replicate,List.getElem?_drop]at hk
        rw[show off+len+(k-(min off r.rows.length+len))=k by omega]at hk
        have mC:=(List.getElem?_eq_some_iff.1 hk).1
        have rf:(off+len)*(m+1)<=k*(m+1):=Nat.mul_le_mul_right _ (by omega)
        rw[List.getElem?_append_right (by simp only[List.length_append,List.length_take,nz,zf];omega)]
        simp only[List.length_append,List.length_take,nz,zf,List.getElem?_drop]
        rw[show off*(m+1)+len*(m+1)+(k*(m+1)+j-(min (off*(m+1)) cur.size+len*(m+1)))=k*(m+1)+j by omega]
        have:=wU k j cs b hk hj
        rw[zb]at this;simpa using this)
    refine⟨undef,_,ι,.inl (lu ho ?_),P2,P1,cL.undef,fun _ _=>rfl⟩
    rw[ex]
    cases len with
    |zero=>exact(h0 rfl).elim
    |succ len=>
     simp only[Builtin.clear_,Sem.run_bind]
     simp[run_underlying ht,zeroValue,typeInfo,hi,qE,dK,undef]
  ·simp at hv
 ·simp at hv
theorem Hw {dT sT ty e:TypeId} {it:TypeInfo} (hu:P.underlying dT=some (.slice e)) (hi:P.info? e=some it) (A B:Option Addr) (sO EN Gw Oe:Nat) (h0:Nat.min sO Gw=0):
  (Builtin.copy_ #[dT,sT] ty #[.slice A Gw Oe,.slice B sO EN]).run P w=.ok (goInt 0) w:=by
 cases A<;>cases B<;>simp[Builtin.copy_,run_underlying hu,Builtin.lenOf,Builtin.firstCells,sizeOf,typeInfo,hi,h0,storeCells,loadCells,loadCellsFrom]
theorem Hx {dT sT ty e:TypeId} {it:TypeInfo} (hu:P.underlying dT=some (.slice e)) (hi:P.info? e=some it) (A B:Addr) (sO EN Gw Oe:Nat) (cs:List Value) (hn:cs.length=Nat.min sO Gw*it.size) (hl:(loadCells B cs.length).run P w=.ok cs.toArray w) (hs:(storeCells A cs).run P w=.ok () w'):
  (Builtin.copy_ #[dT,sT] ty #[.slice (some A) Gw Oe,.slice (some B) sO EN]).run P w=.ok (goInt (Nat.min sO Gw)) w':=by
 simp[Builtin.copy_,run_underlying hu,Builtin.lenOf,Builtin.firstCells,sizeOf,typeInfo,hi,<-hn,hl,hs]
theorem qG {x y:Operand} {t t2:TypeId} {u:Value} (ho:o.op=.call {callee:=.builtin .copy,args:= #[x,y],argTypes:= #[t,t2]}) (h:(Builtin.copy_ #[t,t2] o.type #[a.eval x,a.eval y]).run P w=.ok u w'):(execOp a.eval o).run P w=.ok (.value u) w':=by
 simp only[execOp,ho,resolve,Sem.run_bind,Sem.run_pure,Result.andThen_ok,invoke,builtin]
 simp only[List.map_toArray,List.map_cons,List.map_nil]
 rw[h];rfl
theorem Of {x y:Operand} {x' y':O} {t t2 e:TypeId} {m:Nat} {ys:List (List AV)} {v:AV} {g':Rows} (S:gD P hs D ι g w) (E:cu P w D ι env a) (ho:o.op=.call {callee:=.builtin .copy,args:= #[x,y],argTypes:= #[t,t2]})
  (ht:P.underlying t=some (.slice e)) (fw:ec P e=some (m+1)) (hx:cO P x=some x') (hy:cO P y=some y') (FQ:br g (cU env y')=some ys) (hv:F9 g (m+1) (cU env x') ys=some (v,g')):Dp P hs a o w D ι id v g':=by
 have rx:=dp E hx
 have ry:=dp E hy
 obtain⟨it,hi,jI⟩:∃it,P.info? e=some it/\it.size=m+1:=by
  cases hq:P.info? e with
  |none=>simp[ec,hq]at fw
  |some it=>exact⟨it,rfl,by simpa[ec,hq]using fw⟩
 unfold F9 at hv
 split at hv
 ·rename_i i off len hb
  rw[hb]at rx
  simp only[Option.bind_eq_some_iff]at hv
  obtain⟨r,hg,hv⟩:=hv
  split at hv
  ·rename_i hc
   obtain⟨c1,c2,c3,c4⟩:=hc
   simp only[Option.some.injEq,Prod.mk.injEq]at hv
   obtain⟨rfl,rfl⟩:=hv
   rw[List.all_eq_true]at c4
   have hl:∀c∈ys,c.length=m+1:=fun c hc=>by have:=c4 c hc;simp at this;exact this.1
   have hf:∀c∈ys,∀b∈c,b.cell=true:=fun c hc b hb=>by have:=c4 c hc;simp at this;exact this.2 b hb
   obtain⟨oo,cap,B,ex,hB,h1,h2,h3,h4,hk⟩:=jb rx
   obtain⟨B',dD,R,kD,mM⟩:=S.row _ _ hg
   rw[hB]at dD;injection dD with dD;subst dD
   replace R:=R.row hk
   obtain⟨cur,T,hblk,hC,wU⟩:=R.cur
   obtain⟨A,sc,hu,hA⟩:=sL S ry FQ hl hf
   by_cases h0:min ys.length len=0
   ·rw[h0]
    have e1:({r with rows:=r.rows.take off++ys.take 0++r.rows.drop (off+0)}:Row)=r:=by cases r;simp
    rw[e1]
    have e2:bt g i r=g:=by
     funext q;unfold bt;split
     ·rename_i h;rw[h,hg]
     ·rfl
    rw[e2]
    refine⟨goInt 0,w,ι,.inl (qG ho (by rw[ex,hu];exact Hw ht hi _ _ _ _ _ _ h0)),Step.refl _ _ _ _,S,.eP _ _ (.int _ _),fun _ _=>rfl⟩
   ·rcases hA with rfl|⟨b,o2,news,rfl,yp,hsrc,hR,h1c⟩
    ·simp at h0
    have RA:Nat.min ys.length len=min ys.length len:=rfl
    have hky:min ys.length len<=ys.length:=Nat.min_le_left _ _
    have mC:min ys.length len<=len:=Nat.min_le_right _ _
    generalize U3:min ys.length len=kk at *
    have hlen0:len≠0:=by omega
    have Di:oo=off*B.sz:=by rcases h2 with h2|h2<;>omega
    have IZ:B.sz=m+1:=by rw[R.sz,c2]
    have zb:r.sz=m+1:=c2
    have Th:kk*(m+1)<=ys.length*(m+1):=Nat.mul_le_mul_right _ hky
    have zf:(news.take (kk*(m+1))).length=kk*(m+1):=by rw[List.length_take,yp];omega
    have hbound:(off+kk)*(m+1)<=r.rows.length*(m+1):=Nat.mul_le_mul_right _ (by omega)
    have B9:=R.fits
    rw[zb]at B9
    have UQ:(off+kk)*(m+1)=off*(m+1)+kk*(m+1):=Nat.add_mul _ _ _
    have dK:=run_storeCells_at P B.b oo T (news.take (kk*(m+1))) 0 cur w hblk (by rw[zf,hC,Di,IZ];omega) (fun v hv=>h1c v (List.mem_of_mem_take hv))
    have Tk:=run_loadCells_list (P:=P) w ⟨b,o2,none⟩ (news.take (kk*(m+1))) (fun j v hj=>by
     rw[List.getElem?_take]at hj
     split at hj
     ·have:=hsrc j v hj
      cases j with
      |zero=>simpa[Addr.add]using this
      |succ j=>simpa[Addr.add]using this
     ·cases hj)
    simp only[Nat.add_zero]at dK
    have nz:cur.toList.length=cur.size:=Array.length_toList
    have Pc:(ys.take kk).length=kk:=by rw[List.length_take];omega
    obtain⟨P1,P2⟩:=S.put (r':={r with rows:=r.rows.take off++ys.take kk++r.rows.drop (off+kk)}) hg c1 hB hblk (cur':=(cur.toList.take oo++news.take (kk*(m+1))++cur.toList.drop (oo+(news.take (kk*(m+1))).length)).toArray)
     (by simp only[List.size_toArray,List.length_append,List.length_drop,nz,zf];rw[List.length_take,nz,Di,IZ];omega) c1 rfl (by
      have:(r.rows.take off++ys.take kk++r.rows.drop (off+kk)).length=r.rows.length:=by simp;omega
      dsimp only;rw[this];exact R.fits) (fun cs dx=>by
      rcases List.mem_append.1 dx with h|h
      ·rcases List.mem_append.1 h with h|h
       ·exact R.len cs (List.mem_of_mem_take h)
       ·rw[hl cs (List.mem_of_mem_take h)];exact c2.symm
      ·exact R.len cs (List.mem_of_mem_drop h)) (fun cs dx b hb=>by
      rcases List.mem_append.1 dx with h|h
      ·rcases List.mem_append.1 h with h|h
       ·exact R.flat cs (List.mem_of_mem_take h) b hb
       ·exact hf cs (List.mem_of_mem_take h) b hb
      ·exact R.flat cs (List.mem_of_mem_drop h) b hb) (fun k j cs b hk hj=>by
      simp only[List.getElem?_toArray]
      rw[zb]
      rw[Di,IZ,zf]
      by_cases xY:k<off
      ·rw[List.append_assoc,List.getElem?_append_left (by simp;omega),List.getElem?_take,if_pos xY]at hk
       have im:j<m+1:=by rw[<-zb,<-R.len cs (List.mem_of_getElem? hk)];exact(List.getElem?_eq_some_iff.1 hj).1
       have h2:=j0 xY im
       rw[List.append_assoc,List.getElem?_append_left (by simp only[List.length_take,nz];omega),List.getElem?_take,if_pos h2]
       have:=wU k j cs b hk hj
       rw[zb]at this;simpa using this
      ·by_cases wY:k<off+kk
       ·rw[List.append_assoc,List.getElem?_append_right (by simp;omega),List.getElem?_append_left (by simp;omega)]at hk
        simp only[List.length_take]at hk
        rw[show k-min off r.rows.length=k-off by omega,List.getElem?_take,if_pos (by omega)]at hk
        have im:j<m+1:=by rw[<-hl cs (List.mem_of_getElem? hk)];exact(List.getElem?_eq_some_iff.1 hj).1
        have rf:off*(m+1)<=k*(m+1):=Nat.mul_le_mul_right _ (by omega)
        have rj:k*(m+1)+j-off*(m+1)=(k-off)*(m+1)+j:=by rw[Nat.sub_mul];omega
        have Cb:(k-off)*(m+1)+j<kk*(m+1):=j0 (by omega) im
        rw[List.append_assoc,List.getElem?_append_right (by simp only[List.length_take,nz];omega),List.getElem?_append_left (by rw[zf];simp only[List.length_take,nz];omega)]
        obtain⟨u,RS,hu2⟩:=hR.2 ((k-off)*(m+1)+j) b (flat_get hl hk hj)
        refine⟨u,?_,hu2⟩
        rw[List.getElem?_take]
        simp only[List.length_take,nz]
        rw[show k*(m+1)+j-min (off*(m+1)) cur.size=(k-off)*(m+1)+j by omega,if_pos Cb]
        simpa using RS
       ·rw[List.getElem?_append_right (by simp;omega)]at hk
        simp only[List.length_append,List.length_take,List.getElem?_drop]at hk
        rw[show off+kk+(k-(min off r.rows.length+min kk ys.length))=k by omega]at hk
        have mC:=(List.getElem?_eq_some_iff.1 hk).1
        have rf:(off+kk)*(m+1)<=k*(m+1):=Nat.mul_le_mul_right _ (by omega)
        rw[List.getElem?_append_right (by rw[List.length_append,zf];simp only[List.length_take,nz];omega)]
        rw[List.getElem?_drop,List.length_append,zf]
        simp only[List.length_take,nz]
        rw[show off*(m+1)+kk*(m+1)+(k*(m+1)+j-(min (off*(m+1)) cur.size+kk*(m+1)))=k*(m+1)+j by omega]
        have:=wU k j cs b hk hj
        rw[zb]at this;simpa using this)
    refine⟨goInt kk,_,ι,.inl (qG ho ?_),P2,P1,.eP _ _ (.int _ _),fun _ _=>rfl⟩
    rw[ex,hu]
    have:=Hx (w:=w) (sT:=t2) (ty:=o.type) ht hi ⟨B.b,oo,none⟩ ⟨b,o2,none⟩ ys.length sc len cap _ (by rw[zf,RA,jI]) Tk dK
    rw[RA]at this
    exact this
  ·simp at hv
 ·simp at hv
end
end Go.Proofs.YtgoljkjaameagaaGreat.V

namespace Go.Proofs.YtgoljkjaameagaaGreat.V
open Go.RowKit
variable {P:Program} {w w':World} {D D' D2:Nat->Prop} {ι ι' ι2:Names}
section
variable {g:Rows} {hs:Nat}
theorem gK:∀{n:Nat} {l r:List AV},cV g n l=some r->r.length=l.length/\∀(j:Nat) (b:AV),r[j]? =some b->∃a,l[j]? =some a/\fz g n a=some b
 |n,[],r,h=>by
  rw[cV]at h;simp at h;subst h;simp
 |n,a::l,r,h=>by
  rw[cV]at h
  split at h
  ·rename_i b hb
   simp only[Option.map_eq_some_iff]at h
   obtain⟨r',hr,rfl⟩:=h
   obtain⟨h1,h2⟩:=gK hr
   refine⟨by simp[h1],fun j c hj=>?_⟩
   cases j with
   |zero=>simp at hj;subst hj;exact⟨a,rfl,hb⟩
   |succ j=>simp at hj ⊢;exact h2 j c hj
  ·simp at h
theorem wO:∀{n:Nat} {l r:List (List AV)},dU g n l=some r->r.length=l.length/\∀(j:Nat) (b:List AV),r[j]? =some b->∃a,l[j]? =some a/\cV g n a=some b
 |n,[],r,h=>by
  rw[dU]at h;simp at h;subst h;simp
 |n,a::l,r,h=>by
  rw[dU]at h
  split at h
  ·rename_i b hb
   simp only[Option.map_eq_some_iff]at h
   obtain⟨r',hr,rfl⟩:=h
   obtain⟨h1,h2⟩:=wO hr
   refine⟨by simp[h1],fun j c hj=>?_⟩
   cases j with
   |zero=>simp at hj;subst hj;exact⟨a,rfl,hb⟩
   |succ j=>simp at hj ⊢;exact h2 j c hj
  ·simp at h
theorem se (hD:∀b,D b->D2 b) (ye:∀id row,g id=some row->row.w=true->∃B,ι id=some B/\gR P w D ι B row/\D2 B.b):∀(n:Nat) (a:AV) (u:Value) (r:AV),cL P w D ι a u->fz g n a=some r->cL P w D2 ι2 r u/\(a.cell=true->jL P w D2 r u/\r.cell=true):=by
 intro n
 induction n with
 |zero=>intro a u r _ h;rw[fz]at h;simp at h
 |succ n ih=>
  intro a u r hr h
  have both:∀{r:AV},jL P w D2 r u->r.cell=true->cL P w D2 ι2 r u/\(a.cell=true->jL P w D2 r u/\r.cell=true):=fun h1 h2=>⟨.eP _ _ h1,fun _=>⟨h1,h2⟩⟩
  cases a with
  |map id m=>rw[fz]at h;cases h
  |r7 id=>rw[fz]at h;cases h
  |own id off len=>
   rw[fz]at h
   split at h
   ·rename_i row hg
    split at h
    ·rename_i hw
     split at h
     ·rename_i hle
      simp only[Option.map_eq_some_iff]at h
      obtain⟨rows,po,rfl⟩:=h
      obtain⟨B,hB,R,Oy⟩:=ye id row hg hw
      obtain⟨o,cap,B',rfl,dD,h1,h2,h3,h4,hk⟩:=jb hr
      rw[hB]at dD;injection dD with dD;subst dD
      replace R:=R.row hk
      obtain⟨l1,l2⟩:=wO po
      have hlen:rows.length=len:=by rw[l1];simp;omega
      by_cases h0:rows=[]
      ·subst h0
       simp at hlen;subst hlen
       exact both (.Bp _ _ h4) rfl
      ·have hlp:0<len:=by rw[<-hlen];exact List.length_pos_iff.2 h0
       have ho:o=off*B.sz:=by rcases h2 with h2|h2<;>omega
       have src:∀i cs,rows[i]? =some cs->∃c0,row.rows[off+i]? =some c0/\cV g n c0=some cs:=fun i cs hi=>by
        obtain⟨c0,jP,hf⟩:=l2 i cs hi
        rw[List.getElem?_take]at jP
        split at jP
        ·rw[List.getElem?_drop]at jP;exact⟨c0,jP,hf⟩
        ·simp at jP
       have cell:∀i j,i<len->j<row.sz->∃c0 a0 v,row.rows[off+i]? =some c0/\c0[j]? =some a0/\w.cell? ⟨B.b,o+(i*row.sz+j),none⟩=some v/\cL P w D ι a0 v:=fun i j hi hj=>by
        have rN:off+i<row.rows.length:=by omega
        have e1:=List.getElem?_eq_getElem rN
        have Ld:j<row.rows[off+i].length:=by rw[R.len _ (List.getElem_mem rN)];exact hj
        obtain⟨v,hv,lW⟩:=R.at_ _ _ _ _ e1 (List.getElem?_eq_getElem Ld)
        refine⟨_,_,v,e1,List.getElem?_eq_getElem Ld,?_,lW⟩
        rw[ho,R.sz,<-hv]
        congr 2
        rw[Nat.add_mul];omega
       refine both (.sl rows B.b o len cap row.sz (fun i j=>(w.cell? ⟨B.b,o+(i*row.sz+j),none⟩).getD undef) hlen h1 h4 Oy (fun cs dx=>?_) (fun cs dx b hb=>?_) (fun i j hi hj=>?_) (fun i j cs b hi hj=>?_)) rfl
       ·obtain⟨i,hi,rfl⟩:=List.getElem_of_mem dx
        obtain⟨c0,jP,hf⟩:=src i _ (List.getElem?_eq_getElem hi)
        rw[(gK hf).1];exact R.len c0 (List.mem_of_getElem? jP)
       ·obtain⟨i,hi,rfl⟩:=List.getElem_of_mem dx
        obtain⟨c0,jP,hf⟩:=src i _ (List.getElem?_eq_getElem hi)
        obtain⟨j,hj,rfl⟩:=List.getElem_of_mem hb
        obtain⟨a0,lE,Jb⟩:=(gK hf).2 j _ (List.getElem?_eq_getElem hj)
        obtain⟨v,_,lW⟩:=R.at_ _ _ _ _ jP lE
        exact((ih _ _ _ lW Jb).2 (R.flat c0 (List.mem_of_getElem? jP) a0 (List.mem_of_getElem? lE))).2
       ·obtain⟨c0,a0,v,_,_,hv,_⟩:=cell i j hi hj
        simp only[hv,Option.getD_some]
       ·obtain⟨c0,jP,hf⟩:=src i cs hi
        obtain⟨a0,lE,Jb⟩:=(gK hf).2 j b hj
        have lV:i<len:=by rw[<-hlen];exact(List.getElem?_eq_some_iff.1 hi).1
        have im:j<row.sz:=by rw[<-R.len c0 (List.mem_of_getElem? jP)];exact(List.getElem?_eq_some_iff.1 lE).1
        obtain⟨c1,a1,v,e1,e2,hv,lW⟩:=cell i j lV im
        rw[jP]at e1;injection e1 with e1;subst e1
        rw[lE]at e2;injection e2 with e2;subst e2
        simp only[hv,Option.getD_some]
        exact((ih _ _ _ lW Jb).2 (R.flat c0 (List.mem_of_getElem? jP) a0 (List.mem_of_getElem? lE))).1
     ·simp at h
    ·simp at h
   ·simp at h
  |ptr id i off=>
   rw[fz]at h
   split at h
   ·rename_i row hg
    split at h
    ·rename_i hw
     split at h
     ·rename_i c0 jP
      simp only[Option.map_eq_some_iff]at h
      obtain⟨cs,dx,rfl⟩:=h
      obtain⟨B,hB,R,Oy⟩:=ye id row hg hw
      obtain⟨B',rfl,dD,hk⟩:=iL hr
      rw[hB]at dD;injection dD with dD;subst dD
      replace R:=R.row hk
      obtain⟨l1,l2⟩:=gK dx
      have at_:∀j b,cs[j]? =some b->∃a0 v,w.cell? ⟨B.b,i*B.sz+off+j,none⟩=some v/\cL P w D ι a0 v/\a0.cell=true/\fz g n a0=some b:=fun j b hj=>by
       obtain⟨a0,lE,hf⟩:=l2 j b hj
       rw[List.getElem?_drop]at lE
       obtain⟨v,hv,lW⟩:=R.at_ _ _ _ _ jP lE
       refine⟨a0,v,?_,lW,R.flat c0 (List.mem_of_getElem? jP) a0 (List.mem_of_getElem? lE),hf⟩
       rw[R.sz,Nat.add_assoc];exact hv
      refine both (.dn cs B.b _ (fun j=>(w.cell? ⟨B.b,i*B.sz+off+j,none⟩).getD undef) Oy (fun b hb=>?_) (fun j hj=>?_) (fun j b hj=>?_)) rfl
      ·obtain⟨j,hj,rfl⟩:=List.getElem_of_mem hb
       obtain⟨a0,v,_,lW,hc,hf⟩:=at_ j _ (List.getElem?_eq_getElem hj)
       exact((ih _ _ _ lW hf).2 hc).2
      ·obtain⟨a0,v,hv,_⟩:=at_ j _ (List.getElem?_eq_getElem hj)
       simp only[hv,Option.getD_some]
      ·obtain⟨a0,v,hv,lW,hc,hf⟩:=at_ j b hj
       simp only[hv,Option.getD_some]
       exact((ih _ _ _ lW hf).2 hc).1
     ·simp at h
    ·simp at h
   ·simp at h
  |agg cs=>
   rw[fz]at h
   simp only[Option.map_eq_some_iff]at h
   obtain⟨r',oK,rfl⟩:=h
   obtain⟨vs,f,rfl,h1,h2,h3,h4⟩:=ja hr
   obtain⟨l1,l2⟩:=gK oK
   have hI:jL P w D2 (.agg r') (.agg vs):=.agg r' vs f (by rw[h1,l1]) (fun b hb=>by
    obtain⟨j,hj,rfl⟩:=List.getElem_of_mem hb
    obtain⟨a0,lE,hf⟩:=l2 j _ (List.getElem?_eq_getElem hj)
    exact((ih _ _ _ (h4 j a0 lE) hf).2 (h2 a0 (List.mem_of_getElem? lE))).2) (fun j hj=>h3 j (by rw[<-l1];exact hj)) (fun j b hj=>by
    obtain⟨a0,lE,hf⟩:=l2 j b hj
    exact((ih _ _ _ (h4 j a0 lE) hf).2 (h2 a0 (List.mem_of_getElem? lE))).1)
   exact⟨.eP _ _ hI,fun hc=>by simp[AV.cell]at hc⟩
  |gO cs=>
   rw[fz]at h
   simp only[Option.map_eq_some_iff]at h
   obtain⟨r',oK,rfl⟩:=h
   obtain⟨vs,f,rfl,h1,h3,h4⟩:=vW hr
   obtain⟨l1,l2⟩:=gK oK
   exact⟨.gO r' vs f (by rw[h1,l1]) (fun j hj=>h3 j (by rw[<-l1];exact hj)) (fun j b hj=>by
    obtain⟨a0,lE,hf⟩:=l2 j b hj
    exact(ih _ _ _ (h4 j a0 lE) hf).1),fun hc=>by simp[AV.cell]at hc⟩
  |fn f cQ=>
   rw[fz]at h
   split at h
   ·rename_i dE
    simp only[Option.map_eq_some_iff]at h
    obtain⟨r',oK,rfl⟩:=h
    obtain⟨vs,q,rfl,h0,h1,h3,h4⟩:=AJ hr
    obtain⟨l1,l2⟩:=gK oK
    exact both (.fn f r' vs q h0 (by rw[h1,l1]) (fun j hj=>h3 j (by rw[<-l1];exact hj)) (fun j b hj=>by
     obtain⟨a0,lE,hf⟩:=l2 j b hj
     exact((ih _ _ _ (h4 j a0 lE) hf).2 (List.all_eq_true.1 dE a0 (List.mem_of_getElem? lE))).1)) rfl
   ·simp at h
  |int k m=>rw[fz]at h<;>(try simp at h)<;>(try subst h)<;>(try(rw[du hr];exact⟨.eP _ _ (.int _ _),fun _=>⟨.int _ _,rfl⟩⟩))<;>(try(intros;simp_all))
  |bool b=>rw[fz]at h<;>(try simp at h)<;>(try subst h)<;>(try(rw[fc hr];exact⟨.eP _ _ (.bool _),fun _=>⟨.bool _,rfl⟩⟩))<;>(try(intros;simp_all))
  |str b=>rw[fz]at h<;>(try simp at h)<;>(try subst h)<;>(try(rw[fH hr];exact⟨.eP _ _ (.str _),fun _=>⟨.str _,rfl⟩⟩))<;>(try(intros;simp_all))
  |cC=>rw[fz]at h<;>(try simp at h)<;>(try subst h)<;>(try(rw[kn hr];exact⟨.eP _ _ .cC,fun _=>⟨.cC,rfl⟩⟩))<;>(try(intros;simp_all))
  |jh=>rw[fz]at h<;>(try simp at h)<;>(try subst h)<;>(try(rw[xx hr];exact⟨.eP _ _ .jh,fun _=>⟨.jh,rfl⟩⟩))<;>(try(intros;simp_all))
  |jo=>rw[fz]at h<;>(try simp at h)<;>(try subst h)<;>(try(rw[CT hr];exact⟨.eP _ _ .jo,fun _=>⟨.jo,rfl⟩⟩))<;>(try(intros;simp_all))
  |uG f cQ=>rw[fz]at h<;>(try simp at h)<;>(try(intros;simp_all))
  |gY=>rw[fz]at h<;>(try simp at h)<;>(try subst h)<;>(try(cases hr with|eP _ _ hr=>exact both (hr.frame (fun _ _=>rfl) hD) rfl))<;>(try(intros;simp_all))
  |sl rows=>rw[fz]at h<;>(try simp at h)<;>(try subst h)<;>(try(cases hr with|eP _ _ hr=>exact both (hr.frame (fun _ _=>rfl) hD) rfl))<;>(try(intros;simp_all))
  |dn cs=>rw[fz]at h<;>(try simp at h)<;>(try subst h)<;>(try(cases hr with|eP _ _ hr=>exact both (hr.frame (fun _ _=>rfl) hD) rfl))<;>(try(intros;simp_all))
theorem je:∀{n:Nat} {l r:List AV},ef g n l=some r->r.length=l.length/\∀(j:Nat) (b:AV),r[j]? =some b->∃a,l[j]? =some a/\gE g n a=some b
 |n,[],r,h=>by
  rw[ef]at h;simp at h;subst h;simp
 |n,a::l,r,h=>by
  rw[ef]at h
  split at h
  ·rename_i b hb
   simp only[Option.map_eq_some_iff]at h
   obtain⟨r',hr,rfl⟩:=h
   obtain⟨h1,h2⟩:=je hr
   refine⟨by simp[h1],fun j c hj=>?_⟩
   cases j with
   |zero=>simp at hj;subst hj;exact⟨a,rfl,hb⟩
   |succ j=>simp at hj ⊢;exact h2 j c hj
  ·simp at h
theorem uw:∀{n:Nat} {l r:List (List AV)},iv g n l=some r->r.length=l.length/\∀(j:Nat) (b:List AV),r[j]? =some b->∃a,l[j]? =some a/\ef g n a=some b
 |n,[],r,h=>by
  rw[iv]at h;simp at h;subst h;simp
 |n,a::l,r,h=>by
  rw[iv]at h
  split at h
  ·rename_i b hb
   simp only[Option.map_eq_some_iff]at h
   obtain⟨r',hr,rfl⟩:=h
   obtain⟨h1,h2⟩:=uw hr
   refine⟨by simp[h1],fun j c hj=>?_⟩
   cases j with
   |zero=>simp at hj;subst hj;exact⟨a,rfl,hb⟩
   |succ j=>simp at hj ⊢;exact h2 j c hj
  ·simp at h
theorem GG (ye:∀id row,g id=some row->row.w=true->∃B,ι id=some B/\gR P w D ι B row/\D2 B.b):∀(n:Nat) (a:AV) (u:Value) (r:AV),cL P w D ι a u->gE g n a=some r->cL P w D2 ι2 r u/\(a.cell=true->jL P w D2 r u/\r.cell=true):=by
 intro n
 induction n with
 |zero=>intro a u r _ h;rw[gE]at h;simp at h
 |succ n ih=>
  intro a u r hr h
  have both:∀{r:AV},jL P w D2 r u->r.cell=true->cL P w D2 ι2 r u/\(a.cell=true->jL P w D2 r u/\r.cell=true):=fun h1 h2=>⟨.eP _ _ h1,fun _=>⟨h1,h2⟩⟩
  cases a with
  |map id m=>rw[gE]at h<;>simp_all
  |r7 id=>rw[gE]at h<;>simp_all
  |own id off len=>
   rw[gE]at h
   split at h
   ·rename_i row hg
    split at h
    ·rename_i hw
     split at h
     ·rename_i hle
      simp only[Option.map_eq_some_iff]at h
      obtain⟨rows,po,rfl⟩:=h
      obtain⟨B,hB,R,Oy⟩:=ye id row hg hw
      obtain⟨o,cap,B',rfl,dD,h1,h2,h3,h4,hk⟩:=jb hr
      rw[hB]at dD;injection dD with dD;subst dD
      replace R:=R.row hk
      obtain⟨l1,l2⟩:=uw po
      have hlen:rows.length=len:=by rw[l1];simp;omega
      by_cases h0:rows=[]
      ·subst h0
       simp at hlen;subst hlen
       exact both (.Bp _ _ h4) rfl
      ·have hlp:0<len:=by rw[<-hlen];exact List.length_pos_iff.2 h0
       have ho:o=off*B.sz:=by rcases h2 with h2|h2<;>omega
       have src:∀i cs,rows[i]? =some cs->∃c0,row.rows[off+i]? =some c0/\ef g n c0=some cs:=fun i cs hi=>by
        obtain⟨c0,jP,hf⟩:=l2 i cs hi
        rw[List.getElem?_take]at jP
        split at jP
        ·rw[List.getElem?_drop]at jP;exact⟨c0,jP,hf⟩
        ·simp at jP
       have cell:∀i j,i<len->j<row.sz->∃c0 a0 v,row.rows[off+i]? =some c0/\c0[j]? =some a0/\w.cell? ⟨B.b,o+(i*row.sz+j),none⟩=some v/\cL P w D ι a0 v:=fun i j hi hj=>by
        have rN:off+i<row.rows.length:=by omega
        have e1:=List.getElem?_eq_getElem rN
        have Ld:j<row.rows[off+i].length:=by rw[R.len _ (List.getElem_mem rN)];exact hj
        obtain⟨v,hv,lW⟩:=R.at_ _ _ _ _ e1 (List.getElem?_eq_getElem Ld)
        refine⟨_,_,v,e1,List.getElem?_eq_getElem Ld,?_,lW⟩
        rw[ho,R.sz,<-hv]
        congr 2
        rw[Nat.add_mul];omega
       refine both (.sl rows B.b o len cap row.sz (fun i j=>(w.cell? ⟨B.b,o+(i*row.sz+j),none⟩).getD undef) hlen h1 h4 Oy (fun cs dx=>?_) (fun cs dx b hb=>?_) (fun i j hi hj=>?_) (fun i j cs b hi hj=>?_)) rfl
       ·obtain⟨i,hi,rfl⟩:=List.getElem_of_mem dx
        obtain⟨c0,jP,hf⟩:=src i _ (List.getElem?_eq_getElem hi)
        rw[(je hf).1];exact R.len c0 (List.mem_of_getElem? jP)
       ·obtain⟨i,hi,rfl⟩:=List.getElem_of_mem dx
        obtain⟨c0,jP,hf⟩:=src i _ (List.getElem?_eq_getElem hi)
        obtain⟨j,hj,rfl⟩:=List.getElem_of_mem hb
        obtain⟨a0,lE,Jb⟩:=(je hf).2 j _ (List.getElem?_eq_getElem hj)
        obtain⟨v,_,lW⟩:=R.at_ _ _ _ _ jP lE
        exact((ih _ _ _ lW Jb).2 (R.flat c0 (List.mem_of_getElem? jP) a0 (List.mem_of_getElem? lE))).2
       ·obtain⟨c0,a0,v,_,_,hv,_⟩:=cell i j hi hj
        simp only[hv,Option.getD_some]
       ·obtain⟨c0,jP,hf⟩:=src i cs hi
        obtain⟨a0,lE,Jb⟩:=(je hf).2 j b hj
        have lV:i<len:=by rw[<-hlen];exact(List.getElem?_eq_some_iff.1 hi).1
        have im:j<row.sz:=by rw[<-R.len c0 (List.mem_of_getElem? jP)];exact(List.getElem?_eq_some_iff.1 lE).1
        obtain⟨c1,a1,v,e1,e2,hv,lW⟩:=cell i j lV im
        rw[jP]at e1;injection e1 with e1;subst e1
        rw[lE]at e2;injection e2 with e2;subst e2
        simp only[hv,Option.getD_some]
        exact((ih _ _ _ lW Jb).2 (R.flat c0 (List.mem_of_getElem? jP) a0 (List.mem_of_getElem? lE))).1
     ·simp at h
    ·simp at h
   ·simp at h
  |ptr id i off=>
   rw[gE]at h
   split at h
   ·rename_i row hg
    split at h
    ·rename_i hw
     split at h
     ·rename_i c0 jP
      simp only[Option.map_eq_some_iff]at h
      obtain⟨cs,dx,rfl⟩:=h
      obtain⟨B,hB,R,Oy⟩:=ye id row hg hw
      obtain⟨B',rfl,dD,hk⟩:=iL hr
      rw[hB]at dD;injection dD with dD;subst dD
      replace R:=R.row hk
      obtain⟨l1,l2⟩:=je dx
      have at_:∀j b,cs[j]? =some b->∃a0 v,w.cell? ⟨B.b,i*B.sz+off+j,none⟩=some v/\cL P w D ι a0 v/\a0.cell=true/\gE g n a0=some b:=fun j b hj=>by
       obtain⟨a0,lE,hf⟩:=l2 j b hj
       rw[List.getElem?_drop]at lE
       obtain⟨v,hv,lW⟩:=R.at_ _ _ _ _ jP lE
       refine⟨a0,v,?_,lW,R.flat c0 (List.mem_of_getElem? jP) a0 (List.mem_of_getElem? lE),hf⟩
       rw[R.sz,Nat.add_assoc];exact hv
      refine both (.dn cs B.b _ (fun j=>(w.cell? ⟨B.b,i*B.sz+off+j,none⟩).getD undef) Oy (fun b hb=>?_) (fun j hj=>?_) (fun j b hj=>?_)) rfl
      ·obtain⟨j,hj,rfl⟩:=List.getElem_of_mem hb
       obtain⟨a0,v,_,lW,hc,hf⟩:=at_ j _ (List.getElem?_eq_getElem hj)
       exact((ih _ _ _ lW hf).2 hc).2
      ·obtain⟨a0,v,hv,_⟩:=at_ j _ (List.getElem?_eq_getElem hj)
       simp only[hv,Option.getD_some]
      ·obtain⟨a0,v,hv,lW,hc,hf⟩:=at_ j b hj
       simp only[hv,Option.getD_some]
       exact((ih _ _ _ lW hf).2 hc).1
     ·simp at h
    ·simp at h
   ·simp at h
  |agg cs=>
   rw[gE]at h
   simp only[Option.map_eq_some_iff]at h
   obtain⟨r',oK,rfl⟩:=h
   obtain⟨vs,f,rfl,h1,h2,h3,h4⟩:=ja hr
   obtain⟨l1,l2⟩:=je oK
   have hI:jL P w D2 (.agg r') (.agg vs):=.agg r' vs f (by rw[h1,l1]) (fun b hb=>by
    obtain⟨j,hj,rfl⟩:=List.getElem_of_mem hb
    obtain⟨a0,lE,hf⟩:=l2 j _ (List.getElem?_eq_getElem hj)
    exact((ih _ _ _ (h4 j a0 lE) hf).2 (h2 a0 (List.mem_of_getElem? lE))).2) (fun j hj=>h3 j (by rw[<-l1];exact hj)) (fun j b hj=>by
    obtain⟨a0,lE,hf⟩:=l2 j b hj
    exact((ih _ _ _ (h4 j a0 lE) hf).2 (h2 a0 (List.mem_of_getElem? lE))).1)
   exact⟨.eP _ _ hI,fun hc=>by simp[AV.cell]at hc⟩
  |gO cs=>
   rw[gE]at h
   simp only[Option.map_eq_some_iff]at h
   obtain⟨r',oK,rfl⟩:=h
   obtain⟨vs,f,rfl,h1,h3,h4⟩:=vW hr
   obtain⟨l1,l2⟩:=je oK
   exact⟨.gO r' vs f (by rw[h1,l1]) (fun j hj=>h3 j (by rw[<-l1];exact hj)) (fun j b hj=>by
    obtain⟨a0,lE,hf⟩:=l2 j b hj
    exact(ih _ _ _ (h4 j a0 lE) hf).1),fun hc=>by simp[AV.cell]at hc⟩
  |fn f cQ=>rw[gE]at h<;>(try simp at h)<;>(try(intros;simp_all))
  |int k m=>rw[gE]at h<;>(try simp at h)<;>(try subst h)<;>(try(rw[du hr];exact⟨.eP _ _ (.int _ _),fun _=>⟨.int _ _,rfl⟩⟩))<;>(try(intros;simp_all))
  |bool b=>rw[gE]at h<;>(try simp at h)<;>(try subst h)<;>(try(rw[fc hr];exact⟨.eP _ _ (.bool _),fun _=>⟨.bool _,rfl⟩⟩))<;>(try(intros;simp_all))
  |str b=>rw[gE]at h<;>(try simp at h)<;>(try subst h)<;>(try(rw[fH hr];exact⟨.eP _ _ (.str _),fun _=>⟨.str _,rfl⟩⟩))<;>(try(intros;simp_all))
  |cC=>rw[gE]at h<;>(try simp at h)<;>(try subst h)<;>(try(rw[kn hr];exact⟨.eP _ _ .cC,fun _=>⟨.cC,rfl⟩⟩))<;>(try(intros;simp_all))
  |jh=>rw[gE]at h<;>(try simp at h)<;>(try subst h)<;>(try(rw[xx hr];exact⟨.eP _ _ .jh,fun _=>⟨.jh,rfl⟩⟩))<;>(try(intros;simp_all))
  |jo=>rw[gE]at h<;>(try simp at h)<;>(try subst h)<;>(try(rw[CT hr];exact⟨.eP _ _ .jo,fun _=>⟨.jo,rfl⟩⟩))<;>(try(intros;simp_all))
  |uG f cQ=>rw[gE]at h<;>(try simp at h)<;>(try(intros;simp_all))
  |gY=>rw[gE]at h<;>(try simp at h)<;>(try subst h)<;>(try(cases hr with|eP _ _ hr=>cases hr;exact both .gY rfl))<;>(try(intros;simp_all))
  |sl rows=>rw[gE]at h<;>(try simp at h)<;>(try(intros;simp_all))
  |dn cs=>rw[gE]at h<;>(try simp at h)<;>(try(intros;simp_all))
end
end Go.Proofs.YtgoljkjaameagaaGreat.V

namespace Go.Proofs.YtgoljkjaameagaaGreat.V
open Go.RowKit
variable {P:Program} {w w':World} {D D':Nat->Prop} {ι ι':Names}
section
variable {g:Rows} {hs:Nat} {env:Env} {a:Act} {o:Oper} {id:Id} {v:AV}
theorem gD.HN (S:gD P hs D ι g w) {i:Id} {r r':Row} {B:s9} {ob:Obj} (hid:g i=some r) (hw:r.w=true) (hB:ι i=some B)
  (hR:(∀a v,cL P w D ι a v->cL P {w with heap:=w.heap.setIfInBounds B.b ob} D ι a v)->(w.heap.setIfInBounds B.b ob)[B.b]? =some ob->gR P {w with heap:=w.heap.setIfInBounds B.b ob} D ι B r'):
  gD P hs D ι (bt g i r') {w with heap:=w.heap.setIfInBounds B.b ob}/\Step hs D ι w D ι {w with heap:=w.heap.setIfInBounds B.b ob}:=by
 obtain⟨B0,B6,R,kD,mM⟩:=S.row i r hid
 rw[hB]at B6;injection B6 with B6;subst B6
 have other:∀b,b≠B.b->(w.heap.setIfInBounds B.b ob)[b]? =w.heap[b]? :=fun b hb=>by simp[Ne.symm hb]
 have hd:∀b,D b->(w.heap.setIfInBounds B.b ob)[b]? =w.heap[b]? :=fun b hb=>other b (by rintro rfl;exact mM hw hb)
 have hr:∀a v,cL P w D ι a v->cL P {w with heap:=w.heap.setIfInBounds B.b ob} D ι a v:=fun a v h=>h.frame hd (fun _ h=>h) (fun _ _ h=>h)
 refine⟨⟨by simpa using S.lo,fun b hb=>by simpa using S.dead b hb,fun j q h=>?_,fun j j' q q' C C' h h' Jq hC u9 he=>?_⟩,⟨⟨rfl,rfl,rfl,by simp,fun k hk=>other k (by have:=kD hw;omega)⟩,hd,fun _ h=>h,fun _ _ h=>h,fun _ h=>.inl h⟩⟩
 ·unfold bt at h
  split at h
  ·rename_i e
   subst e
   injection h with h;subst h
   exact⟨B,hB,hR hr (by simp[R.lt]),fun _=>kD hw,fun _=>mM hw⟩
  ·rename_i e
   obtain⟨C,hC,RC,k1,k2⟩:=S.row j q h
   refine⟨C,hC,RC.frame (other C.b (fun Nn=>e ?_)) hr,k1,k2⟩
   exact(S.inj i j r q B C hid h hw hB hC Nn.symm).symm
 ·unfold bt at h h'
  have get:∀j p,(if j=i then some r' else g j)=some p->∃p0,g j=some p0/\(p.w=true->p0.w=true):=fun j p hp=>by
   split at hp
   ·rename_i e;subst e;injection hp with hp;subst hp;exact⟨r,hid,fun _=>hw⟩
   ·exact⟨p,hp,fun h=>h⟩
  obtain⟨p,hp,Qu⟩:=get _ _ h
  obtain⟨p',OZ,_⟩:=get _ _ h'
  exact S.inj j j' p p' C C' hp OZ (Qu Jq) hC u9 he
theorem Fy {s:TS} {x y:AV} {u v:Value} (he:fY s x y=some true) (hx:cL P w D ι x u) (hy:cL P w D ι y v):u=v/\∀n,Instr.sameBits n u v=true:=by
 unfold fY at he
 split at he
 ·split at he
  ·rename_i hk
   subst hk
   simp at he;subst he
   rw[du hx,du hy]
   exact⟨rfl,fun n=>by cases n<;>simp[Instr.sameBits]⟩
  ·cases he
 ·simp at he;subst he
  rw[fc hx,fc hy]
  exact⟨rfl,fun n=>by cases n<;>simp[Instr.sameBits]⟩
 ·simp at he;subst he
  rw[fH hx,fH hy]
  exact⟨rfl,fun n=>by cases n<;>simp[Instr.sameBits,Is]⟩
 ·cases he
theorem BS {n:Nat}:∀{ts:List TS} {xs ys:List AV} {vs us:List Value},e6 ts xs ys=some true->vs.length=xs.length->us.length=ys.length->(∀(j:Nat) (a:AV),xs[j]? =some a->∃u,vs[j]? =some u/\cL P w D ι a u)->(∀(j:Nat) (a:AV),ys[j]? =some a->∃u,us[j]? =some u/\cL P w D ι a u)->
  us.length=vs.length/\(us.zip vs).all (fun p=>Instr.sameBits n p.1 p.2)=true
 |[],[],[],vs,us,_,h1,h2,_,_=>by
  cases vs<;>cases us<;>simp_all
 |[],x::xs,ys,vs,us,h,_,_,_,_=>by simp[e6]at h
 |[],[],y::ys,vs,us,h,_,_,_,_=>by simp[e6]at h
 |t::ts,[],ys,vs,us,h,_,_,_,_=>by simp[e6]at h
 |t::ts,x::xs,[],vs,us,h,_,_,_,_=>by simp[e6]at h
 |t::ts,x::xs,y::ys,[],us,h,h1,_,_,_=>by simp at h1
 |t::ts,x::xs,y::ys,v::vs,[],h,_,h2,_,_=>by simp at h2
 |t::ts,x::xs,y::ys,v::vs,u::us,h,h1,h2,hx,hy=>by
  unfold e6 at h
  split at h
  ·rename_i a b ha hb
   simp only[Option.some.injEq,Bool.and_eq_true]at h
   obtain⟨rfl,rfl⟩:=h
   obtain⟨v',oG,rv⟩:=hx 0 x rfl
   obtain⟨u',FO,ru⟩:=hy 0 y rfl
   simp at oG FO;subst oG;subst FO
   obtain⟨e1,e2⟩:=Fy ha rv ru
   obtain⟨q1,q2⟩:=BS (n:=n) hb (by simpa using h1) (by simpa using h2) (fun j a hj=>by simpa using hx (j+1) a (by simpa using hj)) (fun j a hj=>by simpa using hy (j+1) a (by simpa using hj))
   refine⟨by simp[q1],?_⟩
   simp only[List.zip_cons_cons,List.all_cons,q2,Bool.and_true]
   rw[<-e1]
   have:=e2 n
   rw[<-e1]at this
   exact this
  ·cases h
theorem CA {m:MK} {key:List AV}:∀{rows:List (List AV)} {i j:Nat},gn m key rows i=some (some j)->∃cs,i<=j/\rows[j-i]? =some cs/\e6 m.ts key (cs.take m.ks)=some true
 |[],i,j,h=>by simp[gn]at h
 |cs::rows,i,j,h=>by
  unfold gn at h
  split at h
  ·rename_i hq
   simp at h;subst h
   exact⟨cs,Nat.le_refl _,by simp,hq⟩
  ·obtain⟨c,h1,h2,h3⟩:=CA h
   exact⟨c,by omega,by rw[show j-i=(j-(i+1))+1 by omega];simpa using h2,h3⟩
  ·cases h
theorem xi {m:MK} {k:AV} {rows:List (List AV)} {fi:Option Nat} (h:fR m k rows=some fi):k.isAgg=m.ka/\k.cells.length=m.ks/\(k.cells.all AV.cell=true)/\gn m k.cells rows 0=some fi:=by
 unfold fR at h
 split at h
 ·rename_i hc;exact⟨hc.1,hc.2.1,hc.2.2,h⟩
 ·cases h
theorem J7 {m:MK} {k y:AV} (h1:k.isAgg=m.ka) (h2:k.cells.length=m.ks):part m.ka m.ks (k.cells++[y])=some k/\(k.cells++[y])[m.ks]? =some y:=by
 refine⟨?_,by rw[List.getElem?_append_right (by omega),h2,Nat.sub_self];rfl⟩
 cases hk:m.ka with
 |false=>
  rw[hk]at h1
  rw[wG h1];rfl
 |true=>
  rw[hk]at h1
  cases k<;>simp[AV.isAgg]at h1
  rename_i cs
  simp only[AV.cells]at h2 ⊢
  simp only[part,if_true]
  rw[if_pos (by simp;omega),<-h2,List.take_left']
  rfl
theorem stays {k:TypeId} {m:MK} (hK:Fi P k m) {key kv:AV} {u zx:Value} {cs:List AV} (h1:key.isAgg=m.ka) (hr:cL P w D ι key u) (hp:part m.ka m.ks cs=some kv) (ho:cL P w D ι kv zx) (he:e6 m.ts key.cells (cs.take m.ks)=some true):(Instr.keyThatStays zx u).run P w=.ok u w:=by
 have hs:Instr.sameBits 10000 zx u=true:=by
  rcases hK with⟨s,rfl,hs⟩|⟨fs,ts,rfl,sg,yv,dK,dE⟩
  ·rw[wG h1]at he
   cases cs with
   |nil=>simp[part]at hp
   |cons c l=>
    simp[part]at hp;subst hp
    simp only[MK.ks,List.length_cons,List.length_nil,Nat.zero_add,List.take_succ_cons,List.take_zero,e6]at he
    cases hq:fY s key c with
    |none=>rw[hq]at he;simp at he
    |some b=>
     rw[hq]at he;simp at he;subst he
     obtain⟨e1,e2⟩:=Fy hq hr ho
     rw[<-e1]
     have:=e2 10000
     rwa [<-e1]at this
  ·cases key<;>simp[AV.isAgg]at h1
   rename_i ks
   simp only[part,if_true]at hp
   split at hp
   ·simp only[Option.some.injEq]at hp;subst hp
    obtain⟨vs,rfl,n1,r1⟩:=sJ hr
    obtain⟨us,rfl,n2,r2⟩:=sJ ho
    obtain⟨q1,q2⟩:=BS (n:=9999) (vs:=vs.toList) (us:=us.toList) he (by simpa[AV.cells]using n1) (by simpa using n2) (fun j a hj=>by simpa using r1 j a hj) (fun j a hj=>by simpa using r2 j a hj)
    simp only[Instr.sameBits,Bool.and_eq_true,beq_iff_eq]
    exact⟨by simpa using q1,q2⟩
   ·cases hp
 simp[Instr.keyThatStays,hs]
theorem Ks {es:Array MapEntry} {clock:Nat} (h:Lq es clock) (k v:Value):Lq (es.push ⟨k,v,clock⟩) (clock+1):=by
 refine⟨fun x hx=>?_,?_⟩
 ·simp only[Array.toList_push,List.mem_append,List.mem_singleton]at hx
  rcases hx with hx|rfl
  ·have:=h.1 x hx;omega
  ·exact Nat.lt_succ_self _
 ·simp only[Array.toList_push,List.map_append,List.map_cons,List.map_nil]
  refine List.nodup_append.2 ⟨h.2,by simp,fun a ha b hb=>?_⟩
  obtain⟨x,hx,rfl⟩:=List.mem_map.1 ha
  simp at hb;subst hb
  have:=h.1 x hx;omega
theorem EX {es:Array MapEntry} {clock:Nat} (h:Lq es clock) (j:Nat) (k v:Value):Lq (es.modify j fun e=>{e with key:=k,val:=v}) clock:=by
 have e:(es.modify j fun e=>{e with key:=k,val:=v}).toList.map (·.born)=es.toList.map (·.born):=by
  refine List.ext_getElem? fun i=>?_
  simp only[List.getElem?_map,Array.getElem?_toList,Array.getElem?_modify]
  split
  ·cases es[i]? <;>rfl
  ·rfl
 refine⟨fun x hx=>?_,by rw[e];exact h.2⟩
 have hb:x.born∈(es.modify j fun e=>{e with key:=k,val:=v}).toList.map (·.born):=List.mem_map_of_mem hx
 rw[e]at hb
 obtain⟨y,hy,hyb⟩:=List.mem_map.1 hb
 rw[<-hyb];exact h.1 y hy
theorem HA {es:Array MapEntry} {clock:Nat} (h:Lq es clock) {j:Nat} (hj:j<es.size):Lq (es.eraseIdxIfInBounds j) clock:=by
 have e:(es.eraseIdxIfInBounds j).toList=es.toList.eraseIdx j:=by
  unfold Array.eraseIdxIfInBounds
  rw[dif_pos hj,Array.toList_eraseIdx]
 refine⟨fun x hx=>h.1 x ((List.eraseIdx_sublist _ _).subset (by rwa [e]at hx)),?_⟩
 rw[e]
 exact((List.eraseIdx_sublist es.toList j).map (·.born)).nodup h.2
theorem BY {k y:AV} (h1:k.cells.all AV.cell=true) (h2:y.cell=true):∀a∈k.cells++[y],a.cell=true:=fun a ha=>by
 rcases List.mem_append.1 ha with ha|ha
 ·exact List.all_eq_true.1 h1 a ha
 ·rw[List.mem_singleton.1 ha];exact h2
theorem Oh {t:TypeId} {x k y:Operand} {m:MK} {z:K} {x' k' y':O} {g':Rows} (S:gD P hs D ι g w) (E:cu P w D ι env a) (ho:o.op=.mapUpdate t x k y∨o.op=.insert t x k y) (hc:tn P t=some (m,z)) (hx:cO P x=some x') (hk:cO P k=some k') (hy:cO P y=some y')
  (hv:bJ (.set m) [cU env x',cU env k',cU env y'] g=some g'):Dp P hs a o w D ι id .undef g':=by
 obtain⟨kt,e,i,zv,ht,hi,qE,Tj,hK⟩:=r4 hc
 simp only[bJ,Option.bind_eq_some_iff]at hv
 obtain⟨p,hp,fi,GN,hv⟩:=hv
 split at hv
 ·rename_i hcond
  obtain⟨hw,hyc,_⟩:=hcond
  simp only[Option.some.injEq]at hv;subst hv
  obtain⟨B,hu,hg,hB,vK,es,clock,hb,fw,hlen,hM⟩:=Ay S (dp E hx) hp
  have rk:=dp E hk
  have ry:=dp E hy
  obtain⟨K7,res,hf,hF⟩:=wL (B:=B) hK rk fw hM GN
  obtain⟨k1,k2,k3,k4⟩:=xi GN
  obtain⟨B',dD,R,_⟩:=S.row p.1 p.2 hg
  rw[hB]at dD;injection dD with dD;subst dD
  obtain⟨pk1,pk2⟩:=J7 (y:=cU env y') k1 k2
  have fq:(getObj B.b).run P w=.ok (.map es clock) w:=MapKept.run_getObj_map hb
  rcases hF with⟨rfl,rfl⟩|⟨j,en,rfl,he,rfl⟩
  ·have oz:=S.HN (ob:=.map (es.push ⟨a.eval k,a.eval y,clock⟩) (clock+1)) (r':={p.2 with rows:=dR p.2.rows ((cU env k').cells++[cU env y']) none}) hg hw hB fun hr kE=>⟨R.sz,fun cs dx=>?_,fun xX=>(by rw[vK]at xX;cases xX),fun m' Cc=>?_,fun c hc=>(by rw[vK]at hc;cases hc)⟩
   ·refine⟨undef,_,ι,.inr ⟨?_,rfl⟩,oz.2,oz.1,cL.undef,fun _ _=>rfl⟩
    rcases ho with ho|ho<;>
    ·simp only[execOp,ho,Instr.mapUpdate,hu,Sem.run_bind,run_underlying ht,Result.andThen_ok,fq,K7,hf,MapKept.run_setObj_map _ hb,Sem.run_pure]
   ·rcases List.mem_append.1 dx with h|h
    ·exact R.flat cs h
    ·rw[List.mem_singleton.1 h];exact BY k3 hyc
   ·rw[vK]at Cc;simp only[Option.some.injEq,BK.map.injEq]at Cc;subst Cc
    refine⟨(R.map m vK).1,_,_,kE,by simp[dR,fw],⟨fun cs dx=>?_,Ks hlen.2 _ _⟩,fun q cs hq=>?_⟩
    ·rcases List.mem_append.1 dx with h|h
     ·exact hlen.1 cs h
     ·rw[List.mem_singleton.1 h];simp[k2]
    ·rcases Nat.lt_or_ge q p.2.rows.length with dY|rf
     ·simp only[dR]at hq
      rw[List.getElem?_append_left dY]at hq
      obtain⟨en,kv,vv,q1,q2,q3,q4,q5⟩:=hM q cs hq
      exact⟨en,kv,vv,by rw[Array.getElem?_push_lt (by omega)];rw[Array.getElem?_eq_getElem (by omega)]at q1;simpa using q1,q2,q3,hr _ _ q4,hr _ _ q5⟩
     ·simp only[dR]at hq
      rw[List.getElem?_append_right rf]at hq
      have Nw:q=p.2.rows.length:=by
       have:=(List.getElem?_eq_some_iff.1 hq).1
       simp at this;omega
      subst Nw
      simp at hq;subst hq
      exact⟨⟨a.eval k,a.eval y,clock⟩,_,_,by rw[<-fw];simp,pk1,pk2,hr _ _ rk,hr _ _ ry⟩
  ·simp only[Nat.zero_add]at k4 GN hf ⊢
   obtain⟨Qi,_,LO,heq⟩:=CA k4
   simp only[Nat.sub_zero]at LO
   obtain⟨QY,kv,vv,q1,q2,_,q4,_⟩:=hM j Qi LO
   have HT:QY=en:=by
    have h1:es.toList[j]? =some QY:=by simpa using q1
    rw[he]at h1;injection h1 with h1;exact h1.symm
   subst HT
   have dK:=stays (w:=w) hK k1 rk q2 q4 heq
   have oz:=S.HN (ob:=.map (es.modify j fun e=>{e with key:=a.eval k,val:=a.eval y}) clock) (r':={p.2 with rows:=dR p.2.rows ((cU env k').cells++[cU env y']) (some j)}) hg hw hB fun hr kE=>⟨R.sz,fun cs dx=>?_,fun xX=>(by rw[vK]at xX;cases xX),fun m' Cc=>?_,fun c hc=>(by rw[vK]at hc;cases hc)⟩
   ·refine⟨undef,_,ι,.inr ⟨?_,rfl⟩,oz.2,oz.1,cL.undef,fun _ _=>rfl⟩
    rcases ho with ho|ho<;>
    ·simp only[execOp,ho,Instr.mapUpdate,hu,Sem.run_bind,run_underlying ht,Result.andThen_ok,fq,K7,hf,q1,Option.map_some,Option.getD_some,dK,MapKept.run_setObj_map _ hb,Sem.run_pure]
   ·rcases List.mem_or_eq_of_mem_set dx with h|h
    ·exact R.flat cs h
    ·rw[h];exact BY k3 hyc
   ·rw[vK]at Cc;simp only[Option.some.injEq,BK.map.injEq]at Cc;subst Cc
    have im:=(List.getElem?_eq_some_iff.1 LO).1
    refine⟨(R.map m vK).1,_,_,kE,by simp[dR,fw],⟨fun cs dx=>?_,EX hlen.2 _ _ _⟩,fun q cs hq=>?_⟩
    ·rcases List.mem_or_eq_of_mem_set dx with h|h
     ·exact hlen.1 cs h
     ·rw[h];simp[k2]
    ·simp only[dR,List.getElem?_set]at hq
     split at hq
     ·rename_i Qp
      subst Qp
      (try rw[if_pos im]at hq)
      injection hq with hq;subst hq
      exact⟨{QY with key:=a.eval k,val:=a.eval y},_,_,by rw[Array.getElem?_modify];simp[q1],pk1,pk2,hr _ _ rk,hr _ _ ry⟩
     ·rename_i Qp
      obtain⟨en,kv,vv,q1,q2,q3,q4,q5⟩:=hM q cs hq
      exact⟨en,kv,vv,by rw[Array.getElem?_modify];simp[Qp,q1],q2,q3,hr _ _ q4,hr _ _ q5⟩
 ·cases hv
theorem Og {t t':TypeId} {x k:Operand} {m:MK} {z:K} {x' k':O} {g':Rows} (S:gD P hs D ι g w) (E:cu P w D ι env a) (ho:o.op=.call {callee:=.builtin .delete,args:= #[x,k],argTypes:= #[t,t']}) (hc:tn P t=some (m,z)) (hx:cO P x=some x') (hk:cO P k=some k')
  (hv:bJ (.del m) [cU env x',cU env k'] g=some g'):Dp P hs a o w D ι id .undef g':=by
 obtain⟨kt,e,i,zv,ht,hi,qE,Tj,hK⟩:=r4 hc
 simp only[bJ,Option.bind_eq_some_iff]at hv
 obtain⟨p,hp,fi,GN,hv⟩:=hv
 split at hv
 ·rename_i hw
  simp only[Option.some.injEq]at hv;subst hv
  obtain⟨B,hu,hg,hB,vK,es,clock,hb,fw,hlen,hM⟩:=Ay S (dp E hx) hp
  have rk:=dp E hk
  obtain⟨K7,res,hf,hF⟩:=wL (B:=B) hK rk fw hM GN
  obtain⟨k1,k2,k3,k4⟩:=xi GN
  obtain⟨B',dD,R,_⟩:=S.row p.1 p.2 hg
  rw[hB]at dD;injection dD with dD;subst dD
  have fq:(getObj B.b).run P w=.ok (.map es clock) w:=MapKept.run_getObj_map hb
  have go:∀ob,(Builtin.delete_ #[t,t'] o.type #[a.eval x,a.eval k]).run P w=.ok (.tuple #[]) {w with heap:=w.heap.setIfInBounds B.b ob}->(execOp a.eval o).run P w=.ok (.value undef) {w with heap:=w.heap.setIfInBounds B.b ob}:=fun ob h=>by
   simp only[execOp,ho,resolve,Sem.run_bind,Sem.run_pure,Result.andThen_ok,invoke,builtin,Array.map]
   simp[h,undef]
  rcases hF with⟨rfl,rfl⟩|⟨j,en,rfl,he,rfl⟩
  ·have oz:=S.HN (ob:=.map es clock) (r':={p.2 with rows:=dO p.2.rows none}) hg hw hB fun hr kE=>⟨R.sz,R.flat,fun xX=>(by rw[vK]at xX;cases xX),fun m' Cc=>?_,fun c hc=>(by rw[vK]at hc;cases hc)⟩
   ·refine⟨undef,_,ι,.inl (go _ ?_),oz.2,oz.1,cL.undef,fun _ _=>rfl⟩
    simp[Builtin.delete_,hu,run_underlying ht,fq,K7,hf,MapKept.run_setObj_map _ hb]
   ·rw[vK]at Cc;simp only[Option.some.injEq,BK.map.injEq]at Cc;subst Cc
    exact⟨(R.map m vK).1,_,_,kE,fw,hlen,fun q cs hq=>by
     obtain⟨en,kv,vv,q1,q2,q3,q4,q5⟩:=hM q cs hq
     exact⟨en,kv,vv,q1,q2,q3,hr _ _ q4,hr _ _ q5⟩⟩
  ·simp only[Nat.zero_add]at hf ⊢
   have im:j<es.size:=by have:=(List.getElem?_eq_some_iff.1 he).1;simpa using this
   have oz:=S.HN (ob:=.map (es.eraseIdxIfInBounds j) clock) (r':={p.2 with rows:=dO p.2.rows (some j)}) hg hw hB fun hr kE=>⟨R.sz,fun cs dx=>R.flat cs (List.mem_of_mem_eraseIdx dx),fun xX=>(by rw[vK]at xX;cases xX),fun m' Cc=>?_,fun c hc=>(by rw[vK]at hc;cases hc)⟩
   ·refine⟨undef,_,ι,.inl (go _ ?_),oz.2,oz.1,cL.undef,fun _ _=>rfl⟩
    simp[Builtin.delete_,hu,run_underlying ht,fq,K7,hf,MapKept.run_setObj_map _ hb]
   ·rw[vK]at Cc;simp only[Option.some.injEq,BK.map.injEq]at Cc;subst Cc
    have he2:∀q,(es.eraseIdxIfInBounds j)[q]? =(es.toList.eraseIdx j)[q]? :=fun q=>by
     unfold Array.eraseIdxIfInBounds
     rw[dif_pos im,<-Array.getElem?_toList,Array.toList_eraseIdx]
    refine⟨(R.map m vK).1,_,_,kE,by simp[dO,Array.eraseIdxIfInBounds,im,List.length_eraseIdx,<-fw],⟨fun cs dx=>hlen.1 cs (List.mem_of_mem_eraseIdx dx),HA hlen.2 im⟩,fun q cs hq=>?_⟩
    simp only[dO,List.getElem?_eraseIdx]at hq
    split at hq
    ·rename_i dY
     obtain⟨en,kv,vv,q1,q2,q3,q4,q5⟩:=hM q cs hq
     exact⟨en,kv,vv,by rw[he2,List.getElem?_eraseIdx,if_pos dY];simpa using q1,q2,q3,hr _ _ q4,hr _ _ q5⟩
    ·rename_i dY
     obtain⟨en,kv,vv,q1,q2,q3,q4,q5⟩:=hM (q+1) cs hq
     exact⟨en,kv,vv,by rw[he2,List.getElem?_eraseIdx,if_neg dY];simpa using q1,q2,q3,hr _ _ q4,hr _ _ q5⟩
 ·cases hv
end
end Go.Proofs.YtgoljkjaameagaaGreat.V
