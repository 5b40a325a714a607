/- A small language in which the program's functions are read by value: its values, its operations, its code, and how the program's code is brought into it. -/
import Derived.WalkKit
import Derived.WalkSpells
import Derived.WalkLawsBesides
import Derived.Lib.Hide
import Derived.Great.BuildSlice
import Derived.Conc.LoneCalls
import Derived.MapKept
import Derived.WideKeyRuns
set_option linter.unusedVariables false
set_option linter.unusedSimpArgs false
set_option maxRecDepth 100000
set_option maxHeartbeats 16000000
namespace Go.Proofs.YtgoljkjaameagaaGreat.V
open Go.RowKit
structure Id where
  site:Nat
  bY:Nat
  deriving DecidableEq,Repr
inductive TS where
  |tI|tB|tS
  deriving Repr,DecidableEq
structure MK where
  ka:Bool
  ts:List TS
  deriving Repr,DecidableEq
inductive AV where
  |int (k:IntKind) (n:Int)
  |bool (b:Bool)
  |str (s:ByteArray)
  |cm|gT|jd
  |sl (rows:List (List AV))
  |own (id:Id) (off len:Nat)
  |ptr (id:Id) (i off:Nat)
  |cR (cs:List AV)
  |agg (cs:List AV)
  |gy (vs:List AV)
  |fn (f:Nat) (da:List AV)
  |map (id:Id) (m:MK)
  |jl
  |tN (f:Nat) (first:List AV)
  |rl (id:Id)
  deriving Inhabited
def AV.undef:AV:=.gy []
def AV.cell:AV->Bool
  | .agg _| .gy _=>false
  |_=>true
def AV.cells:AV->List AV
  | .agg cs=>cs
  |v=>[v]
inductive K where
  |int (k:IntKind) (n:Int)
  |bool (b:Bool)
  |str (l:List UInt8)
  |cm|gT|jd|jl
  deriving Repr,DecidableEq
def K.val:K->Value
  | .int k n=>.int k n
  | .bool b=>.bool b
  | .str l=>.string ⟨l.toArray⟩
  | .cm=>.slice none 0 0
  | .gT=>.pointer none
  | .jd=>.nilFunc
  | .jl=>.map none
def K.av:K->AV
  | .int k n=>.int k n
  | .bool b=>.bool b
  | .str l=>.str ⟨l.toArray⟩
  | .cm=>.cm
  | .gT=>.gT
  | .jd=>.jd
  | .jl=>.jl
def Gx:Value->Option K
  | .int k n=>some (.int k n)
  | .bool b=>some (.bool b)
  | .string s=>some (.str s.data.toList)
  | .slice none 0 0=>some .cm
  | .pointer none=>some .gT
  | .nilFunc=>some .jd
  | .map none=>some .jl
  |_=>none
inductive O where
  |t (n:Nat)
  |k (c:K)
  |ka (cs:List K)
  |f (n:Nat)
  deriving Repr,DecidableEq
inductive MQ where
  |new (m:MK)
  |look (m:MK) (ok:Bool) (zero:K)
  |len (m:MK)
  deriving Repr,DecidableEq
inductive MW where
  |set (m:MK)
  |del (m:MK)
  deriving Repr,DecidableEq
inductive gC where
  |dh (x:O)
  |pick (c a b:O)
  |new (zero:List K)
  |box (x:O)
  |build (zero:List K) (parts:List (Nat×Nat×O))
  |kO (sz len:Nat) (parts:List O)
  |load (agg:Bool) (n:Nat) (a:O)
  |store (n:Nat) (a x:O)
  |xZ (x:O)
  |bin (op:BinOp) (k:IntKind) (x y:O)
  |sh (left:Bool) (x y:O)
  |K8 (op:BinOp) (x y:O)
  |NT (neg:Bool) (t:TS) (x y:O)
  |Si (neg:Bool) (ts:List TS) (x y:O)
  |QD (neg LO:Bool) (x:O)
  |Sj (neg:Bool) (x:O)
  |not (x:O)
  |neg (x:O)
  |conv (k:IntKind) (x:O)
  |ES (x:O)
  |slice (sz:Nat) (x:O) (lo hi:Option O)
  |Ak (x:O) (lo hi:Option O)
  |fI (off:Nat) (x:O)
  |field (agg:Bool) (off n:Nat) (x:O)
  |ec (sz:Nat) (x i:O)
  |LI (len sz:Nat) (x i:O)
  |LL (x i:O)
  |dm (agg:Bool) (len n:Nat) (x i:O)
  |extract (i:Nat) (x:O)
  |len (x:O)
  |LR (x:O)
  |append (sz:Nat) (x y:O)
  |copy (sz:Nat) (x y:O)
  |clear (zero:List K) (x:O)
  |LX (f:Nat) (da:List O)
  |LY (f:Nat) (first:List O)
  |j3 (zero:List K) (len cap:O)
  |call (f:Nat) (args:List O)
  |tu (x:O) (args:List O)
  |mq (q:MQ) (xs:List O)
  |mw (q:MW) (xs:List O)
  |Ju (x:O)
  |Jo (x:O)
  |snd (x y:O)
  |O6 (x:O)
  |bad
  deriving Repr,DecidableEq
structure bh where
  dst:Option Nat
  op:gC
  guard:Option (Nat×Bool)
  site:Nat
  hid:List Nat
  deriving Repr,DecidableEq
def q (d:Nat) (op:gC) (s:Nat):bh:=⟨some d,op,none,s,[]⟩
inductive VC where
  |skip
  |eD (draw:Bool) (ops:List bh)
  |seq (a b:VC)
  |cond (c:O) (x y:VC)
  |block (id:Nat) (c:VC)
  |loop (c:VC)
  |exit (id:Nat)
  |ret
  |one (o:bh) (c:VC)
  |both (a b:VC)
  |loc (t s:Nat) (y:O) (c:VC)
  |NN (ops:List bh)
  deriving Repr,DecidableEq
inductive nL where
  |tmp (t:Nat)
  |cell (agg:Bool) (n:Nat) (t:Nat)
  deriving Repr,DecidableEq
structure zd where
  ntmps:Nat
  yJ:Nat
  body:VC
  res:List nL
  deriving Repr,DecidableEq
def fP (P:Program) (f:Nat):Bool:=
  match P.funcs[f]? with
  |some fn=>fn.body.isSome&& !(fn.name== "runtime.NumGoroutine")
  |none=>false
def cO (P:Program):Operand->Option O
  | .tmp t=>some (.t t)
  | .const (.agg cs)=>(cs.toList.mapM Gx).map O.ka
  | .const v=>(Gx v).map O.k
  | .global _=>none
  | .func f=>if fP P f then some (.f f)else none
def jK (P:Program) (t:TypeId):Option (List K):=
  match P.info? t with
  |some i=>match i.zero with
    |some v=>if v.cells.size=i.size then v.cells.toList.mapM Gx else none
    |none=>none
  |none=>none
def er (P:Program) (t:TypeId):Option Nat:=(P.info? t).map (·.size)
def nP (P:Program) (t:TypeId):Option Bool:=
  match P.underlying t with
  |some (.struct _)|some (.array _ _)=>some true
  |some _=>some false
  |none=>none
inductive Ti where
  |sc (t:TS)|ag (ts:List TS)
  deriving Repr,DecidableEq
def fu (P:Program) (t:TypeId):Option TS:=
  match P.underlying t with
  |some .bool=>some .tB
  |some (.int _)=>some .tI
  |some .string=>some .tS
  |_=>none
def Dh (P:Program) (inner:List Field->Option (List TS)):Nat->List Field->Option (List TS)
  |_,[]=>some []
  |off,f::r=>
    if f.offset=off/\f.name≠ "_" then
      match fu P f.type with
      |some t=>if nP P f.type=some false then(Dh P inner (off+1) r).map (t::·)else none
      |none=>match P.underlying f.type with
        |some (.struct fs)=>if !P.stoodInHeld f.type then match inner fs.toList with
          |some ts=>if er P f.type=some ts.length/\ts≠[]then(Dh P inner (off+ts.length) r).map (ts++·)else none
          |none=>none else none
        |_=>none
    else none
def eJ (P:Program):Nat->Nat->List Field->Option (List TS)
  |0,_,[]=>some []
  |0,_,_::_=>none
  |d+1,off,fs=>Dh P (eJ P d 0) off fs
def Tt (P:Program) (t:TypeId):Option Ti:=
  match fu P t with
  |some s=>some (.sc s)
  |none=>match P.underlying t with
    |some (.struct fs)=>if !P.stoodInHeld t&& !P.eqGuardType P.depth t then(eJ P 4 0 fs.toList).map Ti.ag else none
    |_=>none
def su (P:Program) (fs:Array Field):List (Nat×O)->Option (List (Nat×Nat×O))
  |[]=>some []
  |(i,x)::r=>match fs[i]? with
    |some f=>match er P f.type with
      |some n=>(su P fs r).map ((f.offset,n,x)::·)
      |none=>none
    |none=>none
def sD (P:Program) (ps:Array (Nat×Operand)):Option (List (Nat×O)):=ps.toList.mapM fun(i,x)=>(cO P x).map (i,·)
def rh (P:Program):Option Operand->Option (Option O)
  |none=>some none
  |some x=>(cO P x).map some
def sw (P:Program) (neg:Bool) (t:TypeId) (x y:Operand):Option gC:=
  match y with
  | .const (.slice none 0 0)=>match P.underlying t with
    |some (.slice _)=>(cO P x).map (gC.QD neg false)
    |_=>none
  | .const .nilFunc=>match P.underlying t with
    |some (.func ..)=>(cO P x).map (gC.QD neg true)
    |_=>none
  | .const (.pointer none)=>match P.underlying t with
    |some (.pointer _)=>(cO P x).map (gC.Sj neg)
    |_=>none
  |_=>match Tt P t with
    |some (.sc s)=>do pure (.NT neg s (<-cO P x) (<-cO P y))
    |some (.ag ts)=>do pure (.Si neg ts (<-cO P x) (<-cO P y))
    |_=>none
def u7 (P:Program) (op:BinOp) (t:TypeId) (x y:Operand):Option gC:=
  match op with
  | .eql=>sw P false t x y
  | .neq=>sw P true t x y
  | .shl=>do pure (.sh true (<-cO P x) (<-cO P y))
  | .shr=>do pure (.sh false (<-cO P x) (<-cO P y))
  |op=>match P.underlying t with
    |some (.int k)=>do pure (.bin op k (<-cO P x) (<-cO P y))
    |some .string=>do pure (.K8 op (<-cO P x) (<-cO P y))
    |_=>none
def sC (P:Program) (t:TypeId):Option (MK×K):=
  match P.underlying t with
  |some (.map k e)=>match nP P e,(P.info? e).bind (·.zero),fu P k,P.underlying k with
    |some false,some zv,some s,_=>(Gx zv).map fun z=>(⟨false,[s]⟩,z)
    |some false,some zv,none,some (.struct fs)=>match eJ P 4 0 fs.toList,Gx zv with
      |some ts,some z=>if !P.stoodInHeld k/\fs.toList.all (fun f=>(fu P f.type).isSome)then some (⟨true,ts⟩,z)else none
      |_,_=>none
    |_,_,_,_=>none
  |_=>none
def nE (P:Program) (c:Call):Option gC:=
  match c.callee with
  | .builtin .len=>match c.args.toList,c.argTypes.toList with
    |[x],[t]=>match P.underlying t with
      |some (.slice _)=>(cO P x).map gC.len
      |some .string=>(cO P x).map gC.LR
      |some (.map _ _)=>match sC P t,cO P x with
        |some (m,_),some x=>some (.mq (.len m) [x])
        |_,_=>none
      |some (.chan _ _)=>(cO P x).map gC.Jo
      |_=>none
    |_,_=>none
  | .builtin .append=>match c.args.toList,c.argTypes.toList with
    |[x,y],[t,u]=>match P.underlying t with
      |some (.slice e)=>match er P e,jK P e,P.info? e with
        |some (sz+1),some _,some i=>if i.bytes<=32768/\t=u then do pure (.append (sz+1) (<-cO P x) (<-cO P y))else none
        |_,_,_=>none
      |_=>none
    |_,_=>none
  | .builtin .clear=>match c.args.toList,c.argTypes.toList with
    |[x],[t]=>match P.underlying t with
      |some (.slice e)=>match er P e,jK P e with
        |some (_+1),some z=>(cO P x).map (gC.clear z)
        |_,_=>none
      |_=>none
    |_,_=>none
  | .value (.func f)=>if fP P f then(c.args.toList.mapM (cO P)).map (gC.call f)else none
  | .value (.tmp t)=>(c.args.toList.mapM (cO P)).map (gC.tu (.t t))
  | .builtin .delete=>match c.args.toList,c.argTypes.toList with
    |[x,k],[t,_]=>match sC P t,cO P x,cO P k with
      |some (m,_),some x,some k=>some (.mw (.del m) [x,k])
      |_,_,_=>none
    |_,_=>none
  | .builtin .copy=>match c.args.toList,c.argTypes.toList with
    |[x,y],[t,_]=>match P.underlying t with
      |some (.slice e)=>match er P e with
        |some (sz+1)=>do pure (.copy (sz+1) (<-cO P x) (<-cO P y))
        |_=>none
      |_=>none
    |_,_=>none
  |_=>none
def qR (P:Program) (o:Op):Option gC:=
  match o with
  | .move x| .assign x=>(cO P x).map gC.dh
  | .pick c a b=>do pure (.pick (<-cO P c) (<-cO P a) (<-cO P b))
  | .alloc e=>(jK P e).map gC.new
  | .box _ x=>(cO P x).map gC.box
  | .load t a=>do pure (.load (<-nP P t) (<-er P t) (<-cO P a))
  | .store t a x=>do pure (.store (<-er P t) (<-cO P a) (<-cO P x))
  | .nilCheck x=>(cO P x).map gC.xZ
  | .binOp op t x y _=>u7 P op t x y
  | .unOp .not _ x=>(cO P x).map gC.not
  | .unOp .neg _ x=>(cO P x).map gC.neg
  | .convert s d x=>match P.underlying s,P.underlying d with
    |some (.int _),some (.int k)=>(cO P x).map (gC.conv k)
    |some .string,some .string=>(cO P x).map gC.ES
    |_,_=>none
  | .slice t x lo hi none=>match P.underlying t with
    |some (.slice e)=>do
      pure (.slice (<-er P e) (<-cO P x) (<-rh P lo) (<-rh P hi))
    |some .string=>do pure (.Ak (<-cO P x) (<-rh P lo) (<-rh P hi))
    |_=>none
  | .fieldAddr s x i=>match P.underlying s with
    |some (.struct fs)=>match fs[i]? with
      |some f=>match er P f.type with
        |some (_+1)=>(cO P x).map (gC.fI f.offset)
        |_=>none
      |none=>none
    |_=>none
  | .field s x i=>match P.underlying s with
    |some (.struct fs)=>match fs[i]? with
      |some f=>do pure (.field (<-nP P f.type) f.offset (<-er P f.type) (<-cO P x))
      |none=>none
    |_=>none
  | .indexAddr t x i=>match P.underlying t with
    |some (.slice e)=>match er P e with
      |some (m+1)=>do pure (.ec (m+1) (<-cO P x) (<-cO P i))
      |_=>none
    |some (.array len e)=>match er P e with
      |some (m+1)=>do pure (.LI len (m+1) (<-cO P x) (<-cO P i))
      |_=>none
    |_=>none
  | .index t x i=>match P.underlying t with
    |some .string=>do pure (.LL (<-cO P x) (<-cO P i))
    |some (.array len e)=>do pure (.dm (<-nP P e) len (<-er P e) (<-cO P x) (<-cO P i))
    |_=>none
  | .extract x i=>(cO P x).map (gC.extract i)
  | .build t ps=>match P.underlying t with
    |some (.struct fs)=>
      match jK P t,sD P ps with
      |some z,some l=>
        if fs.all (fun f=>(P.info? f.type).isSome)then(su P fs l).map (gC.build z)else none
      |_,_=>none
    |some (.array _ e)=>
      match jK P t,sD P ps,er P e with
      |some z,some l,some n=>some (.build z (l.map fun(i,x)=>(i*n,n,x)))
      |_,_,_=>none
    |_=>none
  | .buildSlice t len ps=>match P.underlying t with
    |some (.slice e)=>match er P e,jK P e,sD P ps with
      |some (sz+1),some _,some l=>
        if len*(sz+1)<=4096/\l.map (·.1)=List.range len then some (.kO (sz+1) len (l.map (·.2)))else none
      |_,_,_=>none
    |_=>none
  | .makeFunc (.func f) first da=>
    if first= #[]/\fP P f then(da.toList.mapM (cO P)).map (gC.LX f)else if da= #[]/\fP P f then(first.toList.mapM (cO P)).map (gC.LY f)else none
  | .makeSlice t l c=>match P.underlying t with
    |some (.slice e)=>match er P e,jK P e,P.info? e with
      |some (_+1),some z,some i=>if i.bytes<=32768 then do pure (.j3 z (<-cO P l) (<-cO P c))else none
      |_,_,_=>none
    |_=>none
  | .call c=>nE P c
  | .makeChan t n=>match P.underlying t with
    |some (.chan _ e)=>match P.info? e with
      |some i=>if i.bytes<=32768 then(cO P n).map gC.Ju else none
      |none=>none
    |_=>none
  | .send x y=>do pure (.snd (<-cO P x) (<-cO P y))
  | .recv t x false=>match P.underlying t with
    |some (.chan _ e)=>match (P.info? e).bind (·.zero)with
      |some _=>(cO P x).map gC.O6
      |none=>none
    |_=>none
  | .makeMap t none=>match sC P t with
    |some (m,_)=>some (.mq (.new m) [])
    |none=>none
  | .lookup t x k ok=>match sC P t,cO P x,cO P k with
    |some (m,z),some x,some k=>some (.mq (.look m ok z) [x,k])
    |_,_,_=>none
  | .mapUpdate t x k v| .insert t x k v=>match sC P t,cO P x,cO P k,cO P v with
    |some (m,_),some x,some k,some v=>some (.mw (.set m) [x,k,v])
    |_,_,_,_=>none
  | .makeInterface _ _=>some .bad
  | .panic _=>some .bad
  |_=>none
inductive Th where
  |pure|look|make|write
  deriving DecidableEq,Repr
def gC.cls:gC->Th
  | .new _| .box _| .kO .. | .j3 .. | .mq (.new _) _| .Ju _=>.make
  | .load .. | .ec .. | .slice .. | .call .. | .tu .. | .mq .. | .Jo _=>.look
  | .store .. | .append .. | .copy .. | .clear .. | .mw .. | .snd .. | .O6 _=>.write
  |_=>.pure
def clash:Th->Th->Bool
  | .pure,_|_,.pure=>false
  | .write,_|_,.write=>true
  |_,_=>false
def jE (ops:Array Oper):Array Nat:=Region.before ops
def qI:gC->Bool:=fun o=>o.cls==.make||o.cls==.write
def gC.ma:gC->Bool
  | .call .. | .tu .. =>true
  |_=>false
def C6 (ops:Array Oper) (o:Oper):Option (Option (Nat×Bool)):=
  match o.guard with
  |none=>some none
  |some (i,b)=>match (ops[i]?).bind (·.dst)with
    |some t=>some (some (t,b))
    |none=>none
def kP (P:Program) (ops:Array Oper) (nt site0:Nat) (draw mk:Bool) (bs:Array Nat) (hidden:List (Nat×Bool)) (j:Nat) (o:Oper):Option bh:=do
  let v <-qR P o.op
  let g <-C6 ops o
  if (o.dst.all fun d=>decide (d<nt))then
    pure {dst:=o.dst,op:=v,guard:=g,site:=site0+j,hid:=if draw then(hidden.filter fun(i,m)=>m&& !(bs.getD j 0).testBit i&&(i !=j||mk&&v.ma)).map fun(i,_)=>site0+i else[]}
  else none
def allM {α:Type} (f:Nat->Oper->Option α):List Oper->Nat->Option (List α)
  |[],_=>some []
  |o::r,j=>do pure ((<-f j o)::(<-allM f r (j+1)))
def gU:O->List Nat
  | .t n=>[n]
  |_=>[]
def wz:Option O->List Nat
  |some x=>gU x
  |none=>[]
def gC.gI:gC->List Nat
  | .clear _ x| .dh x| .box x| .load _ _ x| .xZ x| .QD _ _ x| .Sj _ x| .not x| .neg x| .conv _ x| .ES x| .fI _ x| .field _ _ _ x| .extract _ x| .len x| .LR x| .Ju x| .Jo x| .O6 x=>gU x
  | .pick c a b=>gU c++gU a++gU b
  | .new _| .bad=>[]
  | .build _ ps=>ps.flatMap fun(_,_,x)=>gU x
  | .kO _ _ ps=>ps.flatMap gU
  | .store _ a x| .snd a x=>gU a++gU x
  | .bin _ _ x y| .sh _ x y| .K8 _ x y| .NT _ _ x y| .Si _ _ x y| .ec _ x y| .LI _ _ x y| .LL x y| .dm _ _ _ x y| .append _ x y| .copy _ x y| .j3 _ x y=>gU x++gU y
  | .slice _ x lo hi| .Ak x lo hi=>gU x++wz lo++wz hi
  | .LX _ l| .LY _ l| .call _ l| .mq _ l| .mw _ l=>l.flatMap gU
  | .tu x l=>gU x++l.flatMap gU
def bh.gI (v:bh):List Nat:=v.op.gI++(match v.guard with|some (t,_)=>[t]|none=>[])
def tf (x y:bh):Bool:=
  (match x.dst with
   |some d=> !y.gI.contains d&&y.dst !=some d
   |none=>true)&&
  (match y.dst with
   |some d=> !x.gI.contains d
   |none=>true)
def bh.makes (v:bh):Bool:=qI v.op||v.op.ma&&v.hid.contains v.site
def EZ (x y:bh):Bool:=
  tf x y&& !clash x.op.cls y.op.cls&&(!x.makes||y.hid.contains x.site)&&(!y.makes||x.hid.contains y.site)&&x.site !=y.site
def ET (ops:Array Oper):Bool:=ops.toList.zipIdx.all fun(o,j)=>o.after.all fun e=> !Region.binds .any e||decide (e.on<j)
def ox (ops:Array Oper) (vl:List bh) (bs:Array Nat):Bool:=
  ET ops&&vl.zipIdx.all fun(y,j)=>vl.zipIdx.all fun(x,i)=> !(decide (i<j))||(bs.getD j 0).testBit i||EZ x y
def rj (P:Program) (nt site0:Nat) (ops:Array Oper) (draw mk:Bool):Option (List bh):=
  let bs:=if draw then jE ops else #[]
  let hidden:=if draw then ops.toList.zipIdx.map fun(o,i)=>(i,((qR P o.op).map fun v=>qI v||mk&&v.ma).getD false)else[]
  match allM (kP P ops nt site0 draw mk bs hidden) ops.toList 0 with
  |some vl=>if !draw||ox ops vl bs then some vl else none
  |none=>none
def k6 (v:bh):Bool:= !v.op.ma&&v.op.cls !=.write
def ye (x y:bh):Bool:=tf x y&&x.op.cls==.pure||EZ x y&&k6 x&&k6 y
def qq (ops:Array Oper) (vl:List bh) (bs:Array Nat) (listed:Array Bool) (i:Nat):Bool:=
  match vl[i]? with
  |some x=>(List.range ops.size).all fun j=>listed.getD j false||j==i||(bs.getD j 0).testBit i||(match vl[j]? with|some y=>ye x y|none=>false)
  |none=>false
def Nf (vl:List bh) (x:bh):Option (Nat×Nat×O):=
  match x.op,x.guard with
  | .append _ (.t t) y,none=>match vl.find? fun v=>v.dst==some t&&v.op.cls==.make with
    |some v=>some (t,v.site,y)
    |none=>none
  |_,_=>none
def EY (s:Nat) (x y:bh):Bool:=tf x y&&k6 y&&y.hid.contains s&&y.hid.contains x.site&&y.site !=s&&y.site !=x.site
def oz (ops:Array Oper) (vl:List bh) (bs:Array Nat) (listed:Array Bool) (i s:Nat):Bool:=
  match vl[i]? with
  |some x=>(List.range ops.size).all fun j=>listed.getD j false||j==i||(bs.getD j 0).testBit i||(match vl[j]? with|some y=>EY s x y|none=>false)
  |none=>false
def OR (ops:Array Oper) (vl:List bh) (bs:Array Nat) (listed:Array Bool) (i:Nat):Option (Nat×Nat×Nat×O×bh):=
  match vl[i]? with
  |some x=>match Nf vl x with
    |some (t,s,y)=>if oz ops vl bs listed i s then some (i,t,s,y,x)else none
    |none=>none
  |none=>none
def A8:List VC->Option VC
  |[]=>none
  |[c]=>some c
  |c::r=>(A8 r).map (VC.both c)
def wY (ops:Array Oper) (vl:List bh) (bs:Array Nat):Nat->Array Bool->Option VC
  |0,listed=>
    match Region.ready .any ops listed with
    |[]=>some (.eD false [])
    |_::_=>none
  |n+1,listed=>
    match Region.ready .any ops listed with
    |[]=>some (.eD false [])
    |r::rs=>let rdy:=r::rs
      match rdy.find? (qq ops vl bs listed)with
      |some i=>match vl[i]? with
        |some vo=>(wY ops vl bs n (listed.setIfInBounds i true)).map (VC.one vo)
        |none=>none
      |none=>match rdy.findSome? (OR ops vl bs listed)with
        |some (i,t,s,y,vo)=>(wY ops vl bs n (listed.setIfInBounds i true)).map fun c=>VC.loc t s y (.one vo c)
        |none=>match rdy.mapM fun i=>(vl[i]?).bind fun vo=>(wY ops vl bs n (listed.setIfInBounds i true)).map (VC.one vo)with
          |some l=>A8 l
          |none=>none
def Nc:Op->Bool
  | .send .. | .recv .. =>true
  |_=>false
def Qx (P:Program) (nt site0:Nat) (ops:Array Oper) (draw:Bool) (mode:Nat):Option VC:=
  if draw&&mode==2 then
    match allM (kP P ops nt site0 true false (jE ops) (ops.toList.zipIdx.map fun(o,i)=>(i,((qR P o.op).map qI).getD false))) ops.toList 0 with
    |some vl=>wY ops vl (jE ops) ops.size (Array.replicate ops.size false)
    |none=>none
  else if !draw&&ops.any (fun o=>Nc o.op)then(rj P nt site0 ops false false).map VC.NN
  else(rj P nt site0 ops draw (mode==1)).map (VC.eD draw)
def wm (md:List (Nat×Nat)) (id:Nat):Nat:=
  match md with
  |[]=>0
  |(i,m)::r=>if i=id then m else wm r id
def jr (P:Program) (md:List (Nat×Nat)) (nt fid:Nat):Code->Option VC
  | .skip=>some .skip
  | .region id ops draw=>Qx P nt ((fid*1000+id)*1000) ops draw (wm md id)
  | .seq a b=>do pure (.seq (<-jr P md nt fid a) (<-jr P md nt fid b))
  | .cond c x y=>do pure (.cond (<-cO P c) (<-jr P md nt fid x) (<-jr P md nt fid y))
  | .block id c=>(jr P md nt fid c).map (VC.block id)
  | .loop c=>(jr P md nt fid c).map VC.loop
  | .exit id=>some (.exit id)
  | .ret=>some .ret
  |_=>none
def C7 (P:Program) (r:ResultVar):Option nL:=
  match r with
  | .tmp t=>some (.tmp t)
  | .cell a t=>do pure (.cell (<-nP P t) (<-er P t) a)
def u9 (P:Program) (f:Nat) (md:List (Nat×Nat)):Option zd:=
  match P.funcs[f]? with
  |some fn=>match fn.body with
    |some c=>do
      let b <-jr P md fn.ntmps f c
      let r <-fn.results.toList.mapM (C7 P)
      if fn.params.size+fn.nfree<=fn.ntmps then pure {ntmps:=fn.ntmps,yJ:=fn.params.size+fn.nfree,body:=b,res:=r}else none
    |none=>none
  |none=>none
def mU (P:Program) (f:Nat):Option zd:=u9 P f []
structure Row where
 w:Bool
 sz:Nat
 rows:List (List AV)
abbrev Rows:=Id->Option Row
structure aw where
 get:Rows
 next:Nat
abbrev Env:=Nat->AV
def upd (env:Env):Option Nat->AV->Env
 |some d,v=>fun t=>if t=d then v else env t
 |none,_=>env
inductive Ex where
 |normal
 |exit (id:Nat)
 |ret
 deriving DecidableEq
def cX (env:Env):O->AV
 | .t n=>env n
 | .k c=>c.av
 | .ka cs=>.agg (cs.map K.av)
 | .f n=>.fn n []
def br (g:Rows) (id:Id) (r:Row):Rows:=fun i=>if i=id then some r else g i
def bP (g:Rows) (id:Id):Rows:=fun i=>if i=id then none else g i
def fG:List Nat->Nat->Rows->Rows
 |[],_,g=>g
 |h::t,n,g=>fun id=>if (h::t).contains id.site=true/\id.bY=n then none else g id
def ro (g:Rows):Rows:=fun id=>(g id).map fun r=>{r with w:=false}
def part (agg:Bool) (n:Nat) (cs:List AV):Option AV:=
 if agg then(if n<=cs.length then some (.agg (cs.take n))else none)else cs.head?
def rowAt (g:Rows) (id:Id) (i:Nat):Option (List AV):=(g id).bind (·.rows[i]?)
def ld (g:Rows) (agg:Bool) (n:Nat):AV->Option AV
 | .ptr id i off=>(rowAt g id i).bind fun cs=>part agg n (cs.drop off)
 | .cR cs=>part agg n cs
 |_=>none
def dn:BinOp->IntKind->Int->Int->Option AV
 | .add,k,a,b=>some (.int k (k.wrap (a+b)))
 | .sub,k,a,b=>some (.int k (k.wrap (a-b)))
 | .mul,k,a,b=>some (.int k (k.wrap (a*b)))
 | .quo,k,a,b=>if b=0 then none else some (.int k (k.wrap (a.tdiv b)))
 | .rem,k,a,b=>if b=0 then none else some (.int k (a.tmod b))
 | .lss,_,a,b=>some (.bool (decide (a<b)))
 | .leq,_,a,b=>some (.bool (decide (a<=b)))
 | .gtr,_,a,b=>some (.bool (decide (b<a)))
 | .geq,_,a,b=>some (.bool (decide (b<=a)))
 | .and,k,a,b=>some (.int k (k.wrap (BitVec.ofInt k.bits a&&& BitVec.ofInt k.bits b).toNat))
 | .or,k,a,b=>some (.int k (k.wrap (BitVec.ofInt k.bits a|||BitVec.ofInt k.bits b).toNat))
 | .xor,k,a,b=>some (.int k (k.wrap (BitVec.ofInt k.bits a ^^^ BitVec.ofInt k.bits b).toNat))
 |_,_,_,_=>none
def dR (op:BinOp):AV->AV->Option AV
 | .int k a,.int k' b=>if k=k' then dn op k a b else none
 |_,_=>none
def gK (left:Bool):AV->AV->Option AV
 | .int k a,.int _ b=>if b<0 then none else some (.int k (if left then k.wrap (a*2 ^ min b.toNat k.bits)else a.fdiv (2 ^ min b.toNat k.bits)))
 |_,_=>none
def eb:BinOp->ByteArray->ByteArray->Option AV
 | .add,a,b=>if a.size+b.size<=9223372036854775807 then some (.str (a++b))else none
 | .lss,a,b=>some (.bool (Op.bytesLess a.toList b.toList))
 | .leq,a,b=>some (.bool (Op.bytesLess a.toList b.toList||(a.toList==b.toList)))
 | .gtr,a,b=>some (.bool !(Op.bytesLess a.toList b.toList||(a.toList==b.toList)))
 | .geq,a,b=>some (.bool !(Op.bytesLess a.toList b.toList))
 |_,_,_=>none
def cQ (op:BinOp):AV->AV->Option AV
 | .str a,.str b=>eb op a b
 |_,_=>none
def fD:TS->AV->AV->Option Bool
 | .tI,.int k a,.int k' b=>if k=k' then some (decide (a=b))else none
 | .tB,.bool a,.bool b=>some (a==b)
 | .tS,.str a,.str b=>some (decide (a=b))
 |_,_,_=>none
def eS:List TS->List AV->List AV->Option Bool
 |[],[],[]=>some true
 |t::ts,a::r,b::s=>match fD t a b,eS ts r s with
  |some x,some y=>some (x&&y)
  |_,_=>none
 |_,_,_=>none
def di (neg b:Bool):Bool:=if neg then !b else b
def cN:AV->Option Bool
 | .cm=>some true
 | .own _ _ _=>some false
 | .sl (_::_)=>some false
 |_=>none
def cL:AV->Option Bool
 | .jd=>some true
 | .fn _ _=>some false
 |_=>none
def Ko:AV->Option Bool
 | .gT=>some true
 | .ptr .. | .cR _=>some false
 |_=>none
def dW (LO:Bool) (x:AV):Option Bool:=if LO then cL x else cN x
def dH (len:Nat):Option AV->Option Nat
 |none=>some len
 |some (.int _ n)=>if 0<=n/\n<=len then some n.toNat else none
 |_=>none
def dI (h:Nat):Option AV->Option Nat
 |none=>some 0
 |some (.int _ n)=>if 0<=n/\n<=h then some n.toNat else none
 |_=>none
def bD (g:Rows) (sz:Nat) (x:AV) (lo hi:Option AV):Option AV:=
 match x with
 | .cm=>(dH 0 hi).bind fun h=>(dI h lo).map fun _=>.cm
 | .sl rows=>(dH rows.length hi).bind fun h=>(dI h lo).bind fun l=>if ∀cs∈rows,cs.length=sz then some (.sl ((rows.drop l).take (h-l)))else none
 | .own id off len=>(g id).bind fun r=>(dH len hi).bind fun h=>(dI h lo).bind fun l=>if r.sz=sz then some (.own id (off+l) (h-l))else none
 |_=>none
def aW (x:AV) (lo hi:Option AV):Option AV:=
 match x with
 | .str s=>(dH s.size hi).bind fun h=>(dI h lo).map fun l=>.str (s.extract l h)
 |_=>none
def EG (off:Nat):AV->Option AV
 | .ptr id i o=>some (.ptr id i (o+off))
 | .cR cs=>some (.cR (cs.drop off))
 |_=>none
def bB (g:Rows) (sz:Nat):AV->AV->Option AV
 | .sl rows,.int _ n=>if 0<=n then(rows[n.toNat]?).bind fun cs=>if cs.length=sz then some (.cR cs)else none else none
 | .own id off len,.int _ n=>if 0<=n/\n<len then(g id).bind fun r=>if r.sz=sz then some (.ptr id (off+n.toNat) 0)else none else none
 |_,_=>none
def cF (len sz:Nat):AV->AV->Option AV
 | .ptr id r off,.int _ n=>if 0<=n/\n<len then some (.ptr id r (off+n.toNat*sz))else none
 | .cR cs,.int _ n=>if 0<=n/\n<len then some (.cR (cs.drop (n.toNat*sz)))else none
 |_,_=>none
def cH:AV->AV->Option AV
 | .str s,.int _ n=>if 0<=n then(s[n.toNat]?).map fun b=>.int .u8 b.toNat else none
 |_,_=>none
def cG (agg:Bool) (len n:Nat):AV->AV->Option AV
 | .agg cs,.int _ i=>if 0<=i/\i<len then part agg n (cs.drop (i.toNat*n))else none
 |_,_=>none
def dU:AV->Option Nat
 | .cm=>some 0
 | .sl rows=>some rows.length
 | .own _ _ n=>some n
 |_=>none
def dX:AV->Option AV
 | .bool b=>some (.bool !b)
 |_=>none
def dV:AV->Option AV
 | .int k n=>some (.int k (k.wrap (0-n)))
 |_=>none
def cE (k:IntKind):AV->Option AV
 | .int _ n=>some (.int k (k.wrap n))
 |_=>none
def bG:AV->Option AV
 | .str s=>some (.str s)
 |_=>none
def cP:AV->AV->AV->Option AV
 | .bool c,a,b=>some (if c then a else b)
 |_,_,_=>none
def dS:AV->Option AV
 | .ptr id i o=>some (.ptr id i o)
 | .cR cs=>some (.cR cs)
 |_=>none
def bz (agg:Bool) (off n:Nat):AV->Option AV
 | .agg cs=>if off+n<=cs.length then part agg n (cs.drop off)else none
 |_=>none
def aI (i:Nat):AV->Option AV
 | .gy vs=>vs[i]?
 |_=>none
def cJ:AV->Option AV
 | .str s=>some (.int .i64 s.size)
 |_=>none
def rowOf (sz:Nat) (v:AV):Option (List AV):=if v.cells.length=sz/\v.cells.all AV.cell then some v.cells else none
def cD (v:AV):Option (List AV):=if v.cells.all AV.cell then some v.cells else none
def rowsOf (sz:Nat):List AV->Option (List (List AV))
 |[]=>some []
 |v::r=>(rowOf sz v).bind fun c=>(rowsOf sz r).map fun cs=>c::cs
def cq:List AV->List (Nat×Nat×AV)->Option (List AV)
 |cs,[]=>some cs
 |cs,(off,n,v)::r=>if v.cells.length=n/\off+n<=cs.length/\v.cells.all AV.cell then cq (cs.take off++v.cells++cs.drop (off+n)) r else none
def dp:Nat:=16777216
def gJ (zero:List K):AV->AV->Option (Nat×Row)
 | .int _ l,.int _ c=>if 0<=l/\l<=c/\c<=dp then some (l.toNat,⟨true,zero.length,List.replicate l.toNat (zero.map K.av)⟩)else none
 |_,_=>none
def rS:Nat:=1000000000
def MK.ks (m:MK):Nat:=m.ts.length
def MK.pE (m:MK):Nat:=rS+m.ks
def AV.isAgg:AV->Bool
 | .agg _=>true
 |_=>false
def gm (m:MK) (key:List AV):List (List AV)->Nat->Option (Option Nat)
 |[],_=>some none
 |r::l,i=>match eS m.ts key (r.take m.ks)with
  |some true=>some (some i)
  |some false=>gm m key l (i+1)
  |none=>none
def dL (g:Rows) (m:MK):AV->Option (Id×Row)
 | .map id m'=>if m'=m then(g id).map fun r=>(id,r)else none
 |_=>none
def fR (m:MK) (k:AV) (rows:List (List AV)):Option (Option Nat):=if k.isAgg=m.ka/\k.cells.length=m.ks/\k.cells.all AV.cell then gm m k.cells rows 0 else none
def dQ (m:MK) (z:K) (rows:List (List AV)):Option Nat->Option AV
 |some i=>(rows[i]?).bind fun cs=>cs[m.ks]?
 |none=>some z.av
def bq (q:MQ) (vs:List AV) (g:Rows) (id:Id):Option (AV×Option Row):=
 match q,vs with
 | .new m,[]=>some (.map id m,some ⟨true,m.pE,[]⟩)
 | .look m ok z,[x,k]=>(dL g m x).bind fun p=>(fR m k p.2.rows).bind fun fi=>(dQ m z p.2.rows fi).map fun v=>(if ok then .gy [v,.bool fi.isSome]else v,none)
 | .len m,[x]=>(dL g m x).map fun p=>(.int .i64 p.2.rows.length,none)
 |_,_=>none
def qo:Nat:=2000000000
def cK:AV->Option Nat
 | .int _ n=>if 0<=n/\n<=1048576 then some n.toNat else none
 |_=>none
def cI (g:Rows):AV->Option AV
 | .rl id=>(g id).map fun r=>.int .i64 r.rows.length
 |_=>none
def dZ (g:Rows):AV->AV->Option Rows
 | .rl id,v=>(g id).bind fun r=>if r.w/\qo+r.rows.length<r.sz/\v.cell then some (br g id {r with rows:=r.rows++[[v]]})else none
 |_,_=>none
def dY (g:Rows):AV->Option (AV×Rows)
 | .rl id=>(g id).bind fun r=>match r.rows with
  |[v]::rest=>if r.w then some (v,br g id {r with rows:=rest})else none
  |_=>none
 |_=>none
def dB (rows:List (List AV)) (e:List AV):Option Nat->List (List AV)
 |some i=>rows.set i e
 |none=>rows++[e]
def dz (rows:List (List AV)):Option Nat->List (List AV)
 |some i=>rows.eraseIdx i
 |none=>rows
def bt (q:MW) (vs:List AV) (g:Rows):Option Rows:=
 match q,vs with
 | .set m,[x,k,v]=>(dL g m x).bind fun p=>(fR m k p.2.rows).bind fun fi=>if p.2.w/\v.cell/\v.isAgg=false then some (br g p.1 {p.2 with rows:=dB p.2.rows (k.cells++[v]) fi})else none
 | .del m,[x,k]=>(dL g m x).bind fun p=>(fR m k p.2.rows).bind fun fi=>if p.2.w then some (br g p.1 {p.2 with rows:=dz p.2.rows fi})else none
 |_,_=>none
def eG (o:gC) (ρ:O->AV) (g:Rows) (id:Id):Option (AV×Option Row):=
 match o with
 | .dh x=>some (ρ x,none)
 | .pick c a b=>(cP (ρ c) (ρ a) (ρ b)).map (·,none)
 | .new zero=>some (.ptr id 0 0,some ⟨true,zero.length,[zero.map K.av]⟩)
 | .box x=>(cD (ρ x)).map fun cs=>(.ptr id 0 0,some ⟨true,cs.length,[cs]⟩)
 | .build zero parts=>(cq (zero.map K.av) (parts.map fun(o,n,x)=>(o,n,ρ x))).map fun cs=>(.agg cs,none)
 | .kO sz len parts=>(rowsOf sz (parts.map ρ)).map fun rs=>(.own id 0 len,some ⟨true,sz,rs⟩)
 | .load agg n a=>(ld g agg n (ρ a)).map (·,none)
 | .xZ x=>(dS (ρ x)).map (·,none)
 | .bin op _ x y=>(dR op (ρ x) (ρ y)).map (·,none)
 | .sh left x y=>(gK left (ρ x) (ρ y)).map (·,none)
 | .K8 op x y=>(cQ op (ρ x) (ρ y)).map (·,none)
 | .NT neg t x y=>(fD t (ρ x) (ρ y)).map fun b=>(.bool (di neg b),none)
 | .Si neg ts x y=>match ρ x,ρ y with
  | .agg xs,.agg ys=>(eS ts xs ys).map fun b=>(.bool (di neg b),none)
  |_,_=>none
 | .QD neg LO x=>(dW LO (ρ x)).map fun b=>(.bool (di neg b),none)
 | .Sj neg x=>(Ko (ρ x)).map fun b=>(.bool (di neg b),none)
 | .not x=>(dX (ρ x)).map (·,none)
 | .neg x=>(dV (ρ x)).map (·,none)
 | .conv k x=>(cE k (ρ x)).map (·,none)
 | .ES x=>(bG (ρ x)).map (·,none)
 | .slice sz x lo hi=>(bD g sz (ρ x) (lo.map ρ) (hi.map ρ)).map (·,none)
 | .Ak x lo hi=>(aW (ρ x) (lo.map ρ) (hi.map ρ)).map (·,none)
 | .fI off x=>(EG off (ρ x)).map (·,none)
 | .field agg off n x=>(bz agg off n (ρ x)).map (·,none)
 | .ec sz x i=>(bB g sz (ρ x) (ρ i)).map (·,none)
 | .LI len sz x i=>(cF len sz (ρ x) (ρ i)).map (·,none)
 | .LL x i=>(cH (ρ x) (ρ i)).map (·,none)
 | .dm agg len n x i=>(cG agg len n (ρ x) (ρ i)).map (·,none)
 | .extract i x=>(aI i (ρ x)).map (·,none)
 | .len x=>(dU (ρ x)).map fun(n:Nat)=>(AV.int .i64 (n:Int),none)
 | .LR x=>(cJ (ρ x)).map (·,none)
 | .LX f da=>some (.fn f (da.map ρ),none)
 | .LY f first=>some (.tN f (first.map ρ),none)
 | .j3 zero l c=>(gJ zero (ρ l) (ρ c)).map fun(n,r)=>(.own id 0 n,some r)
 | .mq q xs=>bq q (xs.map ρ) g id
 | .Ju x=>(cK (ρ x)).map fun n=>(.rl id,some ⟨true,qo+n,[]⟩)
 | .Jo x=>(cI g (ρ x)).map (·,none)
 |_=>none
def bj (g:Rows):AV->Option (List (List AV))
 | .cm=>some []
 | .sl rows=>some rows
 | .own id off len=>(g id).bind fun r=>if off+len<=r.rows.length then some ((r.rows.drop off).take len)else none
 |_=>none
def cz (cs:List AV) (off:Nat) (xs:List AV):List AV:=cs.take off++xs++cs.drop (off+xs.length)
def bE (g:Rows) (n:Nat) (v:AV):AV->Option Rows
 | .ptr id i off=>(g id).bind fun r=>(r.rows[i]?).bind fun cs=>
  if r.w/\v.cells.length=n/\v.cells.all AV.cell/\off+n<=cs.length then some (br g id {r with rows:=r.rows.set i (cz cs off v.cells)})else none
 |_=>none
def aT (g:Rows) (id:Id) (sz:Nat) (x:AV) (ys:List (List AV)):Option (AV×Rows):=
 match x with
 | .cm=>match ys with
  |[]=>some (.cm,g)
  |y::r=>if (y::r).length<=dp/\(y::r).all (fun c=>c.length==sz&&c.all AV.cell)then some (.own id 0 (y::r).length,br g id ⟨true,sz,y::r⟩)else none
 | .own i 0 len=>(g i).bind fun r=>
  if r.w/\r.sz=sz/\len=r.rows.length/\len+ys.length<=dp/\ys.all (fun c=>c.length==sz&&c.all AV.cell)then some (.own id 0 (len+ys.length),br (bP g i) id ⟨true,sz,r.rows++ys⟩)else none
 |_=>none
def FE (g:Rows) (sz:Nat) (x:AV) (ys:List (List AV)):Option (AV×Rows):=
 match x with
 | .own i off len=>(g i).bind fun r=>
  if r.w/\r.sz=sz/\off+len<=r.rows.length/\ys.all (fun c=>c.length==sz&&c.all AV.cell)then
   some (.int .i64 (min ys.length len:Nat),br g i {r with rows:=r.rows.take off++ys.take (min ys.length len)++r.rows.drop (off+min ys.length len)})else none
 |_=>none
def bx (g:Rows) (zero:List K) (x:AV):Option Rows:=
 match x with
 | .cm=>some g
 | .own i off len=>(g i).bind fun r=>
  if r.w/\r.sz=zero.length/\off+len<=r.rows.length then
   some (br g i {r with rows:=r.rows.take off++List.replicate len (zero.map K.av)++r.rows.drop (off+len)})else none
 |_=>none
def fH (o:gC) (ρ:O->AV) (g:Rows) (id:Id):Option (AV×Rows):=
 match o with
 | .store n a x=>(bE g n (ρ x) (ρ a)).map fun g'=>(.undef,g')
 | .append sz x y=>(bj g (ρ y)).bind fun ys=>aT g id sz (ρ x) ys
 | .copy sz x y=>(bj g (ρ y)).bind fun ys=>FE g sz (ρ x) ys
 | .clear zero x=>(bx g zero (ρ x)).map fun g'=>(.undef,g')
 | .mw q xs=>(bt q (xs.map ρ) g).map fun g'=>(.undef,g')
 |_=>none
def vd:AV->List AV->Option (Nat×List AV)
 | .fn f da,l=>some (f,l++da)
 | .tN f first,l=>some (f,first++l)
 |_,_=>none
abbrev fN:=Nat->List AV->aw->(AV->aw->Prop)->Prop
mutual
def fz (g:Rows):Nat->AV->Option AV
 |0,_=>none
 |n+1,a=>match a with
  | .own id off len=>match g id with
   |some r=>if r.w then(if off+len<=r.rows.length then(ev g n ((r.rows.drop off).take len)).map AV.sl else none)else none
   |none=>none
  | .ptr id i off=>match g id with
   |some r=>if r.w then(match r.rows[i]? with
    |some cs=>(dc g n (cs.drop off)).map AV.cR
    |none=>none)else none
   |none=>none
  | .agg cs=>(dc g n cs).map AV.agg
  | .gy vs=>(dc g n vs).map AV.gy
  | .fn f da=>if da.all AV.cell then(dc g n da).map (AV.fn f)else none
  | .map _ _| .tN _ _| .rl _=>none
  |v=>some v
 termination_by n _=>(n,0)
def dc (g:Rows):Nat->List AV->Option (List AV)
 |n,[]=>some []
 |n,a::r=>match fz g n a with
  |some b=>(dc g n r).map (b::·)
  |none=>none
 termination_by n l=>(n,l.length+1)
def ev (g:Rows):Nat->List (List AV)->Option (List (List AV))
 |n,[]=>some []
 |n,c::r=>match dc g n c with
  |some b=>(ev g n r).map (b::·)
  |none=>none
 termination_by n l=>(n,(l.map (fun c=>c.length+2)).sum+1)
 decreasing_by all_goals simp_wf;try omega
end
mutual
def gD (g:Rows):Nat->AV->Option AV
 |0,_=>none
 |n+1,a=>match a with
  | .own id off len=>match g id with
   |some r=>if r.w then(if off+len<=r.rows.length then(iu g n ((r.rows.drop off).take len)).map AV.sl else none)else none
   |none=>none
  | .ptr id i off=>match g id with
   |some r=>if r.w then(match r.rows[i]? with
    |some cs=>(eA g n (cs.drop off)).map AV.cR
    |none=>none)else none
   |none=>none
  | .agg cs=>(eA g n cs).map AV.agg
  | .gy vs=>(eA g n vs).map AV.gy
  | .int k m=>some (.int k m)
  | .bool b=>some (.bool b)
  | .str s=>some (.str s)
  | .cm=>some .cm
  | .gT=>some .gT
  | .jd=>some .jd
  | .jl=>some .jl
  |_=>none
 termination_by n _=>(n,0)
def eA (g:Rows):Nat->List AV->Option (List AV)
 |n,[]=>some []
 |n,a::r=>match gD g n a with
  |some b=>(eA g n r).map (b::·)
  |none=>none
 termination_by n l=>(n,l.length+1)
def iu (g:Rows):Nat->List (List AV)->Option (List (List AV))
 |n,[]=>some []
 |n,c::r=>match eA g n c with
  |some b=>(iu g n r).map (b::·)
  |none=>none
 termination_by n l=>(n,(l.map (fun c=>c.length+2)).sum+1)
 decreasing_by all_goals simp_wf;try omega
end
def dD (g:Rows):Rows:=fun id=>(g id).map fun r=>{r with w:=true}
def PC (X:fN) (f:Nat) (args:List AV) (σ:aw) (K:AV->Prop):Prop:=
 X f args ⟨ro σ.get,σ.next⟩ fun r σ'=>∃r',fz σ'.get 6 r=some r'/\K r'
def PCv (X:fN) (f:Nat) (args:List AV) (σ:aw) (K:AV->Prop):Prop:=
 ∃eC,dc (dD σ.get) 6 args=some eC/\X f eC ⟨fun _=>none,σ.next⟩ fun r σ'=>∃r',gD σ'.get 6 r=some r'/\K r'
def fS (X:fN) (f:Nat) (args:List AV) (σ:aw) (K:AV->Prop):Prop:=PC X f args σ K∨PCv X f args σ K
def aH (g:Option (Nat×Bool)) (env:Env):Bool:=
 match g with
 |none=>true
 |some (t,b)=>match env t with
  | .bool c=>c==b
  |_=>false
def AV.plain:AV->Bool
 | .int .. | .bool _| .str _| .cm| .gT| .jd| .jl=>true
 |_=>false
def CM (X:fN) (f:Nat) (args:List AV) (σ:aw) (sz:Nat) (rows:List (List AV)):Prop:=
 (∀c∈rows,∀a∈c,a.plain=true)/\∃eC,dc (dD σ.get) 6 args=some eC/\X f eC ⟨fun _=>none,σ.next⟩ fun r σ'=>∃id,r=.own id 0 rows.length/\σ'.get id=some ⟨true,sz,rows⟩
def cw (X:fN) (draw:Bool) (hid:List Nat) (site:Nat) (f:Nat) (args:List AV) (σ:aw) (next:AV->aw->Prop):Prop:=
 (∃r,fS X f args ⟨fG hid σ.next σ.get,σ.next+1⟩ (fun r'=>r'=r)/\next r σ)∨
 (draw=false/\X f args ⟨σ.get,σ.next+1⟩ next)∨
 (hid.contains site=true/\∃sz rows,CM X f args ⟨fG hid σ.next σ.get,σ.next+1⟩ sz rows/\next (.own ⟨site,σ.next⟩ 0 rows.length) ⟨br σ.get ⟨site,σ.next⟩ ⟨true,sz,rows⟩,σ.next⟩)
def fq (X:fN) (draw:Bool) (o:bh) (env:Env) (σ:aw) (next:AV->aw->Prop):Prop:=
 match o.op with
 | .call f args=>cw X draw o.hid o.site f (args.map (cX env)) σ next
 | .tu x args=>match cX env x with
  | .fn f da=>cw X draw o.hid o.site f (args.map (cX env)++da) σ next
  | .tN f first=>cw X draw o.hid o.site f (first++args.map (cX env)) σ next
  |_=>False
 | .store .. | .append .. | .copy .. | .clear .. | .mw .. =>match fH o.op (cX env) σ.get ⟨o.site,σ.next⟩with
  |some (v,g)=>next v ⟨g,σ.next⟩
  |none=>False
 |_=>match eG o.op (cX env) (fG o.hid σ.next σ.get) ⟨o.site,σ.next⟩with
  |some (v,some r)=>next v ⟨br σ.get ⟨o.site,σ.next⟩ r,σ.next⟩
  |some (v,none)=>next v σ
  |none=>False
def wpOps (X:fN) (draw:Bool):List bh->(Env->aw->Prop)->Env->aw->Prop
 |[],K,env,σ=>K env ⟨σ.get,σ.next+1⟩
 |o::r,K,env,σ=>
  if aH o.guard env then fq X draw o env σ fun v σ'=>wpOps X draw r K (upd env o.dst v) σ'
  else wpOps X draw r K (upd env o.dst .undef) σ
def cj:List bh->(Env->aw->Prop)->Env->aw->Prop
 |[],K,env,σ=>K env ⟨σ.get,σ.next+1⟩
 |o::r,K,env,σ=>o.guard=none/\match o.op with
  | .snd x y=>match dZ σ.get (cX env x) (cX env y)with
   |some g=>cj r K (upd env o.dst .undef) ⟨g,σ.next⟩
   |none=>False
  | .O6 x=>match dY σ.get (cX env x)with
   |some (v,g)=>cj r K (upd env o.dst v) ⟨g,σ.next⟩
   |none=>False
  |op=>match eG op (cX env) σ.get ⟨o.site,σ.next⟩with
   |some (v,none)=>cj r K (upd env o.dst v) σ
   |_=>False
def de (next:Env->aw->Prop) (Q:Ex->Env->aw->Prop):Ex->Env->aw->Prop
 | .normal=>next
 |e=>Q e
def aX (id:Nat) (Q:Ex->Env->aw->Prop):Ex->Env->aw->Prop
 | .exit j0=>if j0=id then Q .normal else Q (.exit j0)
 |e=>Q e
def Fq (W:(Ex->Env->aw->Prop)->Env->aw->Prop) (Q:Ex->Env->aw->Prop):Nat->Env->aw->Prop
 |0=>fun _ _=>False
 |n+1=>W (de (Fq W Q n) Q)
def LS (t s:Nat) (y:O) (env:Env) (n:Nat):Prop:=(∃len,env t=.own ⟨s,n⟩ 0 len)/\∀id o l,cX env y=.own id o l->id.bY≠n
def dE (X:fN):VC->(Ex->Env->aw->Prop)->Env->aw->Prop
 | .skip,Q=>Q .normal
 | .eD draw ops,Q=>wpOps X draw ops (Q .normal)
 | .seq a b,Q=>dE X a (de (dE X b Q) Q)
 | .cond c x y,Q=>fun env σ=>match cX env c with
  | .bool b=>if b then dE X x Q env σ else dE X y Q env σ
  |_=>False
 | .block id c,Q=>dE X c (aX id Q)
 | .loop c,Q=>fun env σ=>∃n,Fq (dE X c) Q n env σ
 | .exit id,Q=>Q (.exit id)
 | .ret,Q=>Q .ret
 | .one o c,Q=>fun env σ=>if aH o.guard env then fq X false o env σ fun v σ'=>dE X c Q (upd env o.dst v) σ' else dE X c Q (upd env o.dst .undef) σ
 | .both a b,Q=>fun env σ=>dE X a Q env σ/\dE X b Q env σ
 | .loc t s y c,Q=>fun env σ=>LS t s y env σ.next/\dE X c Q env σ
 | .NN ops,Q=>cj ops (Q .normal)
def ig (env:Env) (g:Rows):nL->Option AV
 | .tmp t=>some (env t)
 | .cell agg n t=>ld g agg n (env t)
def fe (env:Env) (g:Rows):List nL->Option (List AV)
 |[]=>some []
 |r::l=>(ig env g r).bind fun v=>(fe env g l).map (v::·)
def eL:List AV->AV
 |[v]=>v
 |l=>.gy l
def bZ (args:List AV):Env:=fun t=>args.getD t .undef
def kH (res:List nL) (K:AV->aw->Prop):Ex->Env->aw->Prop
 | .exit _,_,_=>False
 |_,env,σ=>∃vs,fe env σ.get res=some vs/\K (eL vs) σ
inductive jD (P:Program) (w:World) (D:Nat->Prop):AV->Value->Prop
 |int (k n):jD P w D (.int k n) (.int k n)
 |bool (b):jD P w D (.bool b) (.bool b)
 |str (s):jD P w D (.str s) (.string s)
 |cm:jD P w D .cm (.slice none 0 0)
 |gT:jD P w D .gT (.pointer none)
 |jd:jD P w D .jd .nilFunc
 |AL (a c):c<=maxLen->jD P w D (.sl []) (.slice a 0 c)
 |sl (rows b o n c sz) (vs:Nat->Nat->Value):rows.length=n->n<=c->c<=maxLen->D b->(∀cs∈rows,cs.length=sz)->(∀cs∈rows,∀a∈cs,a.cell=true)->
   (∀i j,i<n->j<sz->w.cell? ⟨b,o+(i*sz+j),none⟩=some (vs i j))->
   (∀i j cs a,rows[i]? =some cs->cs[j]? =some a->jD P w D a (vs i j))->jD P w D (.sl rows) (.slice (some ⟨b,o,none⟩) n c)
 |cR (cs b o) (vs:Nat->Value):D b->(∀a∈cs,a.cell=true)->(∀j,j<cs.length->w.cell? ⟨b,o+j,none⟩=some (vs j))->
   (∀j a,cs[j]? =some a->jD P w D a (vs j))->jD P w D (.cR cs) (.pointer (some ⟨b,o,none⟩))
 |agg (cs) (vs:Array Value) (f:Nat->Value):vs.size=cs.length->(∀a∈cs,a.cell=true)->(∀j,j<cs.length->vs[j]? =some (f j))->(∀j a,cs[j]? =some a->jD P w D a (f j))->jD P w D (.agg cs) (.agg vs)
 |fn (f da) (vs:Array Value) (g:Nat->Value):fP P f=true->vs.size=da.length->(∀j,j<da.length->vs[j]? =some (g j))->(∀j a,da[j]? =some a->jD P w D a (g j))->jD P w D (.fn f da) (.func (.func f) #[] vs)
 |jl:jD P w D .jl (.map none)
inductive BK where
 |map (m:MK)
 |chan (cap:Nat)
structure si where
 b:Nat
 sz:Nat
 C:Nat
 k:Option BK
abbrev Names:=Id->Option si
inductive cW (P:Program) (w:World) (D:Nat->Prop) (ι:Names):AV->Value->Prop
 |eQ (a v):jD P w D a v->cW P w D ι a v
 |own (id off len o cap B):ι id=some B->B.k=none->len<=cap->(cap=0∨o=off*B.sz)->(off+cap)*B.sz<=B.C->cap<=maxLen->cW P w D ι (.own id off len) (.slice (some ⟨B.b,o,none⟩) len cap)
 |ptr (id i off B):ι id=some B->B.k=none->cW P w D ι (.ptr id i off) (.pointer (some ⟨B.b,i*B.sz+off,none⟩))
 |agg (cs) (vs:Array Value) (f:Nat->Value):vs.size=cs.length->(∀a∈cs,a.cell=true)->(∀j,j<cs.length->vs[j]? =some (f j))->(∀j a,cs[j]? =some a->cW P w D ι a (f j))->cW P w D ι (.agg cs) (.agg vs)
 |gy (cs) (vs:Array Value) (f:Nat->Value):vs.size=cs.length->(∀j,j<cs.length->vs[j]? =some (f j))->(∀j a,cs[j]? =some a->cW P w D ι a (f j))->cW P w D ι (.gy cs) (.tuple vs)
 |fn (f da) (vs:Array Value) (g:Nat->Value):fP P f=true->vs.size=da.length->(∀j,j<da.length->vs[j]? =some (g j))->(∀j a,da[j]? =some a->cW P w D ι a (g j))->cW P w D ι (.fn f da) (.func (.func f) #[] vs)
 |rl (id c B):ι id=some B->B.k=some (.chan c)->cW P w D ι (.rl id) (.chan (some B.b))
 |map (id m B):ι id=some B->B.k=some (.map m)->cW P w D ι (.map id m) (.map (some B.b))
 |tN (f da) (vs:Array Value) (g:Nat->Value):fP P f=true->vs.size=da.length->(∀j,j<da.length->vs[j]? =some (g j))->(∀j a,da[j]? =some a->cW P w D ι a (g j))->cW P w D ι (.tN f da) (.func (.func f) vs #[])
variable {P:Program} {w w':World} {D D':Nat->Prop} {ι ι':Names}
theorem jD.frame (hD:∀b,D b->w'.heap[b]? =w.heap[b]?) (hs:∀b,D b->D' b) {a:AV} {v:Value} (h:jD P w D a v):jD P w' D' a v:=by
 induction h with
 |int k n=>exact .int k n
 |bool b=>exact .bool b
 |str s=>exact .str s
 |cm=>exact .cm
 |gT=>exact .gT
 |jd=>exact .jd
 |jl=>exact .jl
 |AL a c h=>exact .AL a c h
 |sl rows b o n c sz vs h1 h2 h3 h4 h5 h5' h6 _ ih=>exact .sl rows b o n c sz vs h1 h2 h3 (hs b h4) h5 h5' (fun i j hi hj=>(World.cell?_of_block (hD b h4)).trans (h6 i j hi hj)) ih
 |cR cs b o vs h1 N0 h2 _ ih=>exact .cR cs b o vs (hs b h1) N0 (fun j hj=>(World.cell?_of_block (hD b h1)).trans (h2 j hj)) ih
 |agg cs vs f h1 h2 h3 _ ih=>exact .agg cs vs f h1 h2 h3 ih
 |fn f da vs g h1 h2 h3 _ ih=>exact .fn f da vs g h1 h2 h3 ih
theorem cW.frame (hD:∀b,D b->w'.heap[b]? =w.heap[b]?) (hs:∀b,D b->D' b) (hι:∀id B,ι id=some B->ι' id=some B) {a:AV} {v:Value} (h:cW P w D ι a v):cW P w' D' ι' a v:=by
 induction h with
 |eQ a v h=>exact .eQ a v (h.frame hD hs)
 |map id m B h1 h2=>exact .map id m B (hι _ _ h1) h2
 |rl id c B h1 h2=>exact .rl id c B (hι _ _ h1) h2
 |own id off len o cap B h1 h2 h3 h4 h5 h6=>exact .own id off len o cap B (hι _ _ h1) h2 h3 h4 h5 h6
 |ptr id i off B h1 h2=>exact .ptr id i off B (hι _ _ h1) h2
 |agg cs vs f h1 h2 h3 _ ih=>exact .agg cs vs f h1 h2 h3 ih
 |gy cs vs f h1 h2 _ ih=>exact .gy cs vs f h1 h2 ih
 |fn f da vs g h1 h2 h3 _ ih=>exact .fn f da vs g h1 h2 h3 ih
 |tN f da vs g h1 h2 h3 _ ih=>exact .tN f da vs g h1 h2 h3 ih
theorem cW.undef:cW P w D ι .undef Go.undef:=.gy [] #[] (fun _=>Go.undef) rfl (fun j hj=>by simp at hj) (fun j a h=>by simp at h)
theorem wI (c:K):cW P w D ι c.av c.val:=by
 cases c with
 |int k n=>exact .eQ _ _ (.int k n)
 |bool b=>exact .eQ _ _ (.bool b)
 |str l=>exact .eQ _ _ (.str _)
 |cm=>exact .eQ _ _ .cm
 |gT=>exact .eQ _ _ .gT
 |jd=>exact .eQ _ _ .jd
 |jl=>exact .eQ _ _ .jl
theorem K.nf (c:K):c.av.cell=true:=by cases c<;>rfl
theorem zL {v:Value} {c:K} (h:Gx v=some c):v=c.val:=by
 unfold Gx at h
 split at h<;>simp at h<;>subst h<;>rfl
theorem cW.Bd {a:AV} {v:Value} (h:cW P w D ι a v) (hc:a.cell=true):v.cells= #[v]/\(∀vs,v≠.agg vs)/\(∀vs,v≠.tuple vs):=by
 cases h with
 |eQ a v h=>cases h<;>simp_all [AV.cell,Value.cells]
 |own=>simp[Value.cells]
 |map=>simp[Value.cells]
 |rl=>simp[Value.cells]
 |ptr=>simp[Value.cells]
 |agg=>simp[AV.cell]at hc
 |gy=>simp[AV.cell]at hc
 |fn=>simp[Value.cells]
 |tN=>simp[Value.cells]
theorem cW.cells {a:AV} {v:Value} (h:cW P w D ι a v) (ha:a.cells.all AV.cell=true):v.cells.size=a.cells.length/\∃f:Nat->Value,(∀j,j<a.cells.length->v.cells[j]? =some (f j))/\∀j x,a.cells[j]? =some x->cW P w D ι x (f j):=by
 have one:∀(a:AV) (v:Value),a.cell=true->a.cells=[a]->cW P w D ι a v->v.cells.size=a.cells.length/\∃f:Nat->Value,(∀j,j<a.cells.length->v.cells[j]? =some (f j))/\∀j x,a.cells[j]? =some x->cW P w D ι x (f j):=by
  intro a v hc dq h
  obtain⟨h1,_,_⟩:=h.Bd hc
  rw[h1,dq]
  refine⟨rfl,fun _=>v,fun j hj=>?_,fun j x hx=>?_⟩
  ·have:j=0:=by simp at hj;omega
   subst this;rfl
  ·cases j with
   |zero=>simp at hx;subst hx;exact h
   |succ j=>simp at hx
 cases h with
 |eQ a v h=>
  cases h with
  |agg cs vs f h1 h2 h3 h4=>exact⟨h1,f,h3,fun j x hx=>.eQ _ _ (h4 j x hx)⟩
  |_=>exact one _ _ rfl rfl (.eQ _ _ (by constructor<;>assumption))
 |own id off len o cap B h1 h2 h3 h4 h5 h6=>exact one _ _ rfl rfl (.own id off len o cap B h1 h2 h3 h4 h5 h6)
 |ptr id i off B h1 h2=>exact one _ _ rfl rfl (.ptr id i off B h1 h2)
 |map id m B h1 h2=>exact one _ _ rfl rfl (.map id m B h1 h2)
 |rl id c B h1 h2=>exact one _ _ rfl rfl (.rl id c B h1 h2)
 |agg cs vs f h1 h2 h3 h4=>exact⟨h1,f,h3,h4⟩
 |gy cs vs f h1 h2 h3=>simp[AV.cells,AV.cell]at ha
 |fn f da vs g h1 h2 h3 h4=>exact one _ _ rfl rfl (.fn f da vs g h1 h2 h3 h4)
 |tN f da vs g h1 h2 h3 h4=>exact one _ _ rfl rfl (.tN f da vs g h1 h2 h3 h4)
structure lI (P:Program) (w:World) (D:Nat->Prop) (ι:Names) (B:si) (r:Row):Prop where
 sz:B.sz=r.sz
 xo:∃cells T,w.heap[B.b]? =some (.cells cells T (0,0))/\cells.size=B.C
 fits:r.rows.length*r.sz<=B.C
 len:∀cs∈r.rows,cs.length=r.sz
 flat:∀cs∈r.rows,∀a∈cs,a.cell=true
 at_:∀i j cs a,r.rows[i]? =some cs->cs[j]? =some a->∃v,w.cell? ⟨B.b,i*r.sz+j,none⟩=some v/\cW P w D ι a v
def KZ (es:Array MapEntry) (clock:Nat):Prop:=(∀x∈es.toList,x.born<clock)/\(es.toList.map (·.born)).Nodup
def MF (P:Program) (w:World) (D:Nat->Prop) (ι:Names) (B:si) (m:MK) (r:Row):Prop:=
 ∃(es:Array MapEntry) (clock:Nat),w.heap[B.b]? =some (.map es clock)/\es.size=r.rows.length/\((∀cs∈r.rows,cs.length=m.ks+1)/\KZ es clock)/\
  ∀(i:Nat) (cs:List AV),r.rows[i]? =some cs->∃(e:MapEntry) (kv vv:AV),es[i]? =some e/\part m.ka m.ks cs=some kv/\cs[m.ks]? =some vv/\cW P w D ι kv e.key/\cW P w D ι vv e.val
def HK (P:Program) (w:World) (D:Nat->Prop) (ι:Names) (B:si) (c:Nat) (r:Row):Prop:=
 ∃(buf:Array Value) (s q:Nat),w.heap[B.b]? =some (.chan c buf false s q false)/\buf.size=r.rows.length/\
  ∀(i:Nat) (cs:List AV),r.rows[i]? =some cs->∃(a:AV) (u:Value),cs=[a]/\buf[i]? =some u/\cW P w D ι a u
structure gO (P:Program) (w:World) (D:Nat->Prop) (ι:Names) (B:si) (r:Row):Prop where
 sz:B.sz=r.sz
 flat:∀cs∈r.rows,∀a∈cs,a.cell=true
 row:B.k=none->lI P w D ι B r
 map:∀m,B.k=some (.map m)->r.sz=m.pE/\MF P w D ι B m r
 chan:∀c,B.k=some (.chan c)->r.sz=qo+c/\HK P w D ι B c r
theorem lI.obj {B:si} {r:Row} (R:lI P w D ι B r) (h:B.k=none):gO P w D ι B r:=⟨R.sz,R.flat,fun _=>R,fun m hm=>(by rw[h]at hm;cases hm),fun m hm=>by rw[h]at hm;cases hm⟩
theorem gO.flag {B:si} {r:Row} (R:gO P w D ι B r) (b:Bool):gO P w D ι B {r with w:=b}:=⟨R.sz,R.flat,fun h=>⟨R.sz,(R.row h).xo,(R.row h).fits,(R.row h).len,R.flat,(R.row h).at_⟩,R.map,R.chan⟩
theorem gO.cells {B:si} {r:Row} (R:gO P w D ι B r) (h:r.sz<rS):B.k=none:=by
 cases hk:B.k with
 |none=>rfl
 |some m=>
  cases m with
  |map m=>
   have h1:=(R.map m hk).1
   unfold MK.pE at h1
   omega
  |chan c=>
   have h1:=(R.chan c hk).1
   unfold qo at h1
   unfold rS at h
   omega
theorem gO.L0 {B:si} {r:Row} (R:gO P w D ι B r) {c:Array Value} {T:TypeId} {z:Nat×Nat} (h:w.heap[B.b]? =some (.cells c T z)):B.k=none:=by
 cases hk:B.k with
 |none=>rfl
 |some m=>
  cases m with
  |map m=>obtain⟨_,es,c,h3,_⟩:=R.map m hk;rw[h]at h3;cases h3
  |chan c=>obtain⟨_,buf,s,q,h3,_⟩:=R.chan c hk;rw[h]at h3;cases h3
theorem gO.lt {B:si} {r:Row} (R:gO P w D ι B r):B.b<w.heap.size:=by
 cases h:B.k with
 |none=>
  obtain⟨c,T,h3,_⟩:=(R.row h).xo
  exact(Array.getElem?_eq_some_iff.1 h3).1
 |some m=>
  cases m with
  |map m=>obtain⟨_,es,c,h3,_⟩:=R.map m h;exact(Array.getElem?_eq_some_iff.1 h3).1
  |chan c=>obtain⟨_,buf,s,q,h3,_⟩:=R.chan c h;exact(Array.getElem?_eq_some_iff.1 h3).1
structure gw (P:Program) (hs:Nat) (D:Nat->Prop) (ι:Names) (g:Rows) (w:World):Prop where
 lo:hs<=w.heap.size
 dead:∀b,D b->b<w.heap.size
 row:∀id r,g id=some r->∃B,ι id=some B/\gO P w D ι B r/\(r.w=true->hs<=B.b)/\(r.w=true->¬D B.b)
 inj:∀id j0 r r' B B',g id=some r->g j0=some r'->r.w=true->ι id=some B->ι j0=some B'->B.b=B'.b->id=j0
def Used (ι:Names) (n:Nat) (U:Nat->Prop):Prop:=∀id,ι id≠none->id.bY<n∨(id.bY=n/\U id.site)
structure Step (hs:Nat) (D:Nat->Prop) (ι:Names) (w:World) (D':Nat->Prop) (ι':Names) (w':World):Prop where
 below:Below hs w w'
 oO:∀b,D b->w'.heap[b]? =w.heap[b]?
 dead:∀b,D b->D' b
 names:∀id B,ι id=some B->ι' id=some B
 new:∀b,D' b->D b∨hs<=b
theorem Step.refl (hs:Nat) (D:Nat->Prop) (ι:Names) (w:World):Step hs D ι w D ι w:=⟨Below.refl _ _,fun _ _=>rfl,fun _ h=>h,fun _ _ h=>h,fun _ h=>.inl h⟩
theorem Step.trans {hs:Nat} {D D' D'':Nat->Prop} {ι ι' Sg:Names} {w w' KV:World} (h:Step hs D ι w D' ι' w') (k:Step hs D' ι' w' D'' Sg KV):Step hs D ι w D'' Sg KV:=
 ⟨h.below.trans k.below,fun b hb=>(k.oO b (h.dead b hb)).trans (h.oO b hb),fun b hb=>k.dead b (h.dead b hb),fun id B hB=>k.names id B (h.names id B hB),fun b hb=>by
  rcases k.new b hb with hb|hb
  ·exact h.new b hb
  ·exact .inr hb⟩
theorem Step.rep {hs:Nat} {D D':Nat->Prop} {ι ι':Names} {w w':World} (h:Step hs D ι w D' ι' w') {a:AV} {v:Value} (hr:cW P w D ι a v):cW P w' D' ι' a v:=hr.frame h.oO h.dead h.names
theorem du {k n} {v:Value} (h:cW P w D ι (.int k n) v):v=.int k n:=by
 cases h with
 |eQ _ _ h=>cases h;rfl
theorem e5 {b} {v:Value} (h:cW P w D ι (.bool b) v):v=.bool b:=by
 cases h with
 |eQ _ _ h=>cases h;rfl
theorem fE {s} {v:Value} (h:cW P w D ι (.str s) v):v=.string s:=by
 cases h with
 |eQ _ _ h=>cases h;rfl
theorem kf {v:Value} (h:cW P w D ι .cm v):v=.slice none 0 0:=by
 cases h with
 |eQ _ _ h=>cases h;rfl
theorem wJ {v:Value} (h:cW P w D ι .jd v):v=.nilFunc:=by
 cases h with
 |eQ _ _ h=>cases h;rfl
theorem iX {cs} {v:Value} (h:cW P w D ι (.agg cs) v):∃(vs:Array Value) (f:Nat->Value),v=.agg vs/\vs.size=cs.length/\(∀a∈cs,a.cell=true)/\(∀j,j<cs.length->vs[j]? =some (f j))/\∀j a,cs[j]? =some a->cW P w D ι a (f j):=by
 cases h with
 |eQ _ _ h=>
  cases h with
  |agg cs vs f h1 h2 h3 h4=>exact⟨vs,f,rfl,h1,h2,h3,fun j a h=>.eQ _ _ (h4 j a h)⟩
 |agg cs vs f h1 h2 h3 h4=>exact⟨vs,f,rfl,h1,h2,h3,h4⟩
theorem uI {cs} {v:Value} (h:cW P w D ι (.gy cs) v):∃(vs:Array Value) (f:Nat->Value),v=.tuple vs/\vs.size=cs.length/\(∀j,j<cs.length->vs[j]? =some (f j))/\∀j a,cs[j]? =some a->cW P w D ι a (f j):=by
 cases h with
 |eQ _ _ h=>cases h
 |gy cs vs f h1 h2 h3=>exact⟨vs,f,rfl,h1,h2,h3⟩
theorem Aa {f da} {v:Value} (h:cW P w D ι (.fn f da) v):∃(vs:Array Value) (g:Nat->Value),v=.func (.func f) #[] vs/\fP P f=true/\vs.size=da.length/\(∀j,j<da.length->vs[j]? =some (g j))/\∀j a,da[j]? =some a->cW P w D ι a (g j):=by
 cases h with
 |eQ _ _ h=>
  cases h with
  |fn f da vs g h1 h2 h3 h4=>exact⟨vs,g,rfl,h1,h2,h3,fun j a h=>.eQ _ _ (h4 j a h)⟩
 |fn f da vs g h1 h2 h3 h4=>exact⟨vs,g,rfl,h1,h2,h3,h4⟩
theorem JP {v:Value} (h:cW P w D ι .gT v):v=.pointer none:=by
 cases h with
 |eQ _ _ h=>cases h;rfl
theorem Cg {v:Value} (h:cW P w D ι .jl v):v=.map none:=by
 cases h with
 |eQ _ _ h=>cases h;rfl
theorem Mg {f da} {v:Value} (h:cW P w D ι (.tN f da) v):∃(vs:Array Value) (g:Nat->Value),v=.func (.func f) vs #[]/\fP P f=true/\vs.size=da.length/\(∀j,j<da.length->vs[j]? =some (g j))/\∀j a,da[j]? =some a->cW P w D ι a (g j):=by
 cases h with
 |eQ _ _ h=>cases h
 |tN f da vs g h1 h2 h3 h4=>exact⟨vs,g,rfl,h1,h2,h3,h4⟩
theorem iY {id off len} {v:Value} (h:cW P w D ι (.own id off len) v):∃o cap B,v=.slice (some ⟨B.b,o,none⟩) len cap/\ι id=some B/\len<=cap/\(cap=0∨o=off*B.sz)/\(off+cap)*B.sz<=B.C/\cap<=maxLen/\B.k=none:=by
 cases h with
 |eQ _ _ h=>cases h
 |own id off len o cap B h1 h2 h3 h4 h5 h6=>exact⟨o,cap,B,rfl,h1,h3,h4,h5,h6,h2⟩
theorem iH {id i off} {v:Value} (h:cW P w D ι (.ptr id i off) v):∃B,v=.pointer (some ⟨B.b,i*B.sz+off,none⟩)/\ι id=some B/\B.k=none:=by
 cases h with
 |eQ _ _ h=>cases h
 |ptr id i off B h1 h2=>exact⟨B,rfl,h1,h2⟩
theorem Me {id} {v:Value} (h:cW P w D ι (.rl id) v):∃B c,v=.chan (some B.b)/\ι id=some B/\B.k=some (.chan c):=by
 cases h with
 |eQ _ _ h=>cases h
 |rl id c B h1 h2=>exact⟨B,c,rfl,h1,h2⟩
theorem Fw {id m} {v:Value} (h:cW P w D ι (.map id m) v):∃B,v=.map (some B.b)/\ι id=some B/\B.k=some (.map m):=by
 cases h with
 |eQ _ _ h=>cases h
 |map id m B h1 h2=>exact⟨B,rfl,h1,h2⟩
theorem k8 {cs} {v:Value} (h:cW P w D ι (.cR cs) v):∃b o,∃vs:Nat->Value,v=.pointer (some ⟨b,o,none⟩)/\D b/\(∀a∈cs,a.cell=true)/\(∀j,j<cs.length->w.cell? ⟨b,o+j,none⟩=some (vs j))/\∀j a,cs[j]? =some a->jD P w D a (vs j):=by
 cases h with
 |eQ _ _ h=>
  cases h with
  |cR cs b o vs h1 h2 h3 h4=>exact⟨b,o,vs,rfl,h1,h2,h3,h4⟩
theorem wK {rows} {v:Value} (h:cW P w D ι (.sl rows) v):∃A c,v=.slice A rows.length c/\rows.length<=c/\c<=maxLen/\
  (rows=[]∨∃b o sz,∃vs:Nat->Nat->Value,A=some ⟨b,o,none⟩/\D b/\(∀cs∈rows,cs.length=sz)/\(∀cs∈rows,∀a∈cs,a.cell=true)/\
   (∀i j,i<rows.length->j<sz->w.cell? ⟨b,o+(i*sz+j),none⟩=some (vs i j))/\∀i j cs a,rows[i]? =some cs->cs[j]? =some a->jD P w D a (vs i j)):=by
 cases h with
 |eQ _ _ h=>
  cases h with
  |AL a c h=>exact⟨a,c,rfl,Nat.zero_le _,h,.inl rfl⟩
  |sl rows b o n c sz vs h1 h2 h3 h4 h5 h5' h6 h7=>subst h1;exact⟨_,c,rfl,h2,h3,.inr ⟨b,o,sz,vs,rfl,h4,h5,h5',h6,h7⟩⟩
inductive eE:AV->Prop
 |int (k n):eE (.int k n)
 |bool (b):eE (.bool b)
 |str (s):eE (.str s)
 |cm:eE .cm
 |gT:eE .gT
 |jd:eE .jd
 |sl (rows):rows.length<=maxLen->(∀cs∈rows,∀a∈cs,eE a)->eE (.sl rows)
 |own (id off len):eE (.own id off len)
 |ptr (id i off):eE (.ptr id i off)
 |cR (cs):(∀a∈cs,eE a)->eE (.cR cs)
 |agg (cs):(∀a∈cs,eE a)->eE (.agg cs)
 |gy (cs):(∀a∈cs,eE a)->eE (.gy cs)
 |fn (f da):(∀a∈da,eE a)->eE (.fn f da)
 |map (id m):eE (.map id m)
 |rl (id):eE (.rl id)
 |jl:eE .jl
 |tN (f da):(∀a∈da,eE a)->eE (.tN f da)
theorem eE.len {rows:List (List AV)} (h:eE (.sl rows)):rows.length<=9223372036854775807:=by
 cases h with
 |sl _ h _=>unfold maxLen at h;omega
theorem eE.cell {rows:List (List AV)} (h:eE (.sl rows)) {cs:List AV} (hc:cs∈rows) {a:AV} (ha:a∈cs):eE a:=by
 cases h with
 |sl _ _ h=>exact h cs hc a ha
theorem eE.NC {cs:List AV} (h:eE (.agg cs)) {a:AV} (ha:a∈cs):eE a:=by
 cases h with
 |agg _ h=>exact h a ha
theorem eE.BO {cs:List AV} (h:eE (.cR cs)) {a:AV} (ha:a∈cs):eE a:=by
 cases h with
 |cR _ h=>exact h a ha
theorem oU {l:List AV} {p:AV->Prop} (h:∀(j:Nat) (a:AV),l[j]? =some a->p a):∀a∈l,p a:=fun a ha=>by
 obtain⟨j,hj,rfl⟩:=List.getElem_of_mem ha
 exact h j _ (List.getElem?_eq_getElem hj)
theorem jD.Jn {a:AV} {v:Value} (h:jD P w D a v):eE a:=by
 induction h with
 |int k n=>exact .int k n
 |bool b=>exact .bool b
 |str s=>exact .str s
 |cm=>exact .cm
 |gT=>exact .gT
 |jd=>exact .jd
 |jl=>exact .jl
 |AL a c h=>exact .sl [] (Nat.zero_le _) (fun cs h=>by cases h)
 |sl rows b o n c sz vs h1 h2 h3 h4 h5 h5' h6 _ ih=>
  exact .sl rows (by omega) fun cs dq a ha=>by
   obtain⟨i,hi,rfl⟩:=List.getElem_of_mem dq
   obtain⟨j,hj,rfl⟩:=List.getElem_of_mem ha
   exact ih i j _ _ (List.getElem?_eq_getElem hi) (List.getElem?_eq_getElem hj)
 |cR cs b o vs h1 N0 h2 _ ih=>exact .cR cs (oU ih)
 |agg cs vs f h1 h2 h3 _ ih=>exact .agg cs (oU ih)
 |fn f da vs g h1 h2 h3 _ ih=>exact .fn f da (oU ih)
theorem cW.Jn {a:AV} {v:Value} (h:cW P w D ι a v):eE a:=by
 induction h with
 |eQ a v h=>exact h.Jn
 |own id off len o cap B=>exact .own _ _ _
 |ptr id i off B=>exact .ptr _ _ _
 |map id m B=>exact .map _ _
 |rl id c B=>exact .rl _
 |agg cs vs f h1 h2 h3 _ ih=>exact .agg cs (oU ih)
 |gy cs vs f h1 h2 _ ih=>exact .gy cs (oU ih)
 |fn f da vs g h1 h2 h3 _ ih=>exact .fn f da (oU ih)
 |tN f da vs g h1 h2 h3 _ ih=>exact .tN f da (oU ih)
end Go.Proofs.YtgoljkjaameagaaGreat.V

namespace Go.Proofs.YtgoljkjaameagaaGreat.V
open Go.RowKit
variable {P:Program} {w w':World} {D D':Nat->Prop} {ι ι':Names}
def ck (P:Program) (w:World) (D:Nat->Prop) (ι:Names) (env:Env) (a:Act):Prop:=∀t,cW P w D ι (env t) (a.tmps.getD t undef)
theorem rQ {vs:List Value} {cs:List K} (h:vs.mapM Gx=some cs):cs.length=vs.length/\∀(j:Nat) (c:K),cs[j]? =some c->vs[j]? =some c.val:=by
 induction vs generalizing cs with
 |nil=>simp at h;subst h;simp
 |cons v r ih=>
  simp only[List.mapM_cons,Option.bind_eq_bind,Option.bind_eq_some_iff]at h
  obtain⟨c,hc,pS,dq,h⟩:=h
  simp at h;subst h
  obtain⟨h1,h2⟩:=ih dq
  refine⟨by simp[h1],fun j d hd=>?_⟩
  cases j with
  |zero=>simp at hd ⊢;subst hd;exact zL hc
  |succ j=>simp at hd ⊢;exact h2 j d hd
theorem U4 {vs:List Value} {cs:List K} (h:vs.mapM Gx=some cs):cW P w D ι (.agg (cs.map K.av)) (.agg vs.toArray):=by
 obtain⟨h1,h2⟩:=rQ h
 refine .agg _ _ (fun j=>vs.getD j undef) (by simp[h1]) (fun a ha=>?_) (fun j hj=>?_) (fun j a ha=>?_)
 ·obtain⟨c,_,rfl⟩:=List.mem_map.1 ha;exact c.nf
 ·simp at hj;simp[List.getElem?_eq_getElem (show j<vs.length by omega)]
 ·simp only[List.getElem?_map,Option.map_eq_some_iff]at ha
  obtain⟨c,hc,rfl⟩:=ha
  rw[List.getD_eq_getElem?_getD,h2 j c hc];exact wI c
theorem dj {env:Env} {a:Act} {x:Operand} {y:O} (E:ck P w D ι env a) (h:cO P x=some y):cW P w D ι (cX env y) (a.eval x):=by
 unfold cO at h
 split at h
 ·simp at h;subst h;exact E _
 ·simp only[Option.map_eq_some_iff]at h
  obtain⟨cs,dq,rfl⟩:=h
  have:=U4 (P:=P) (w:=w) (D:=D) (ι:=ι) dq
  simpa[Act.eval,cX]using this
 ·simp only[Option.map_eq_some_iff]at h
  obtain⟨c,hc,rfl⟩:=h
  simp only[Act.eval,cX]
  rw[zL hc];exact wI c
 ·simp at h
 ·split at h
  ·rename_i hc
   simp at h;subst h
   simp only[Act.eval,cX]
   exact .fn _ _ _ (fun _=>undef) hc rfl (fun j hj=>by simp at hj) (fun j a h=>by simp at h)
  ·simp at h
def oj (P:Program) (a:Act) (o:Oper) (w:World) (D:Nat->Prop) (ι:Names) (v:AV):Prop:=∃u,(execOp a.eval o).run P w=.ok (.value u) w/\cW P w D ι v u
section
variable {g:Rows} {hs:Nat} {env:Env} {a:Act} {o:Oper} {id:Id} {v:AV}
theorem Nq {x:Operand} {y:O} (E:ck P w D ι env a) (ho:o.op=.move x∨o.op=.assign x) (hx:cO P x=some y):oj P a o w D ι (cX env y):=by
 refine⟨a.eval x,?_,dj E hx⟩
 rcases ho with h|h<;>simp[execOp,h,go_sem]
theorem PL {c x y:Operand} {c' x' y':O} (E:ck P w D ι env a) (ho:o.op=.pick c x y) (hc:cO P c=some c') (hx:cO P x=some x') (hy:cO P y=some y') (hv:cP (cX env c') (cX env x') (cX env y')=some v):oj P a o w D ι v:=by
 unfold cP at hv
 split at hv
 ·rename_i b hb
  simp at hv;subst hv
  have h1:=e5 (hb▸dj E hc)
  refine⟨if b then a.eval x else a.eval y,by simp only[execOp,ho,h1,asBool];rfl,?_⟩
  cases b
  ·exact dj E hy
  ·exact dj E hx
 ·simp at hv
theorem R5 {op:BinOp} {x y:Operand} {x' y':O} {t yt:TypeId} (E:ck P w D ι env a) (ho:o.op=.binOp op t x y yt) (he:op≠.eql) (hn:op≠.neq) (hx:cO P x=some x') (hy:cO P y=some y') (hv:dR op (cX env x') (cX env y')=some v):oj P a o w D ι v:=by
 unfold dR at hv
 split at hv
 ·rename_i k n k' m hb sK
  split at hv
  ·rename_i hk
   subst hk
   have h1:=du (hb▸dj E hx)
   have h2:=du (sK▸dj E hy)
   have key:∀u,(binOp op t (.int k n) (.int k m)).run P w=.ok u w->(execOp a.eval o).run P w=.ok (.value u) w:=fun u hu=>by
    have e0:eqGuard op t x y (.int k n) (.int k m)=pure ():=by unfold eqGuard;cases op<;>rfl
    simp only[execOp,ho,h1,h2,e0]
    simp[go_sem,hu]
   cases op<;>simp only[dn]at hv<;>(try(simp at hv;done))<;>(try split at hv)<;>(try(simp at hv;done))<;>simp only[Option.some.injEq]at hv<;>subst hv<;>
    (refine⟨_,key _ (by simp only[binOp,ne_eq,not_true_eq_false,if_false,Op.intArith,Op.intDiv,Op.intBits,Op.intCmp, *];rfl),?_⟩)<;>
    first
     |exact .eQ _ _ (.int _ _)
     |exact .eQ _ _ (.bool _)
  ·simp at hv
 ·simp at hv
theorem Pv {op:BinOp} {x y:Operand} {x' y':O} {t yt:TypeId} (E:ck P w D ι env a) (ho:o.op=.binOp op t x y yt) (he:op≠.eql) (hn:op≠.neq) (hx:cO P x=some x') (hy:cO P y=some y') (hv:cQ op (cX env x') (cX env y')=some v):oj P a o w D ι v:=by
 unfold cQ at hv
 split at hv
 ·rename_i n m hb sK
  have h1:=fE (hb▸dj E hx)
  have h2:=fE (sK▸dj E hy)
  cases op<;>simp only[eb]at hv<;>(try(simp at hv;done))
  case add=>
   split at hv
   ·rename_i hl
    simp only[Option.some.injEq]at hv;subst hv
    exact⟨_,by simp only[execOp,ho,h1,h2];simp[eqGuard,binOp,go_sem];exact hl,.eQ _ _ (.str _)⟩
   ·simp at hv
  all_goals
   simp only[Option.some.injEq]at hv;subst hv
   exact⟨_,by simp only[execOp,ho,h1,h2];simp[eqGuard,binOp,Op.stringOp,go_sem],.eQ _ _ (.bool _)⟩
 ·simp at hv
theorem FB (n m:ByteArray):(n.toList==m.toList)=decide (n=m):=by
 rw[ByteArray.toList_eq,ByteArray.toList_eq]
 by_cases h:n=m
 ·subst h;simp
 ·have:n.data.toList≠m.data.toList:=fun he=>h (ByteArray.ext (Array.ext' he))
  rw[decide_eq_false h];exact beq_eq_false_iff_ne.2 this
theorem pH {t:TypeId} (h:fu P t=some .tB):P.underlying t=some .bool:=by unfold fu at h;split at h<;>simp_all
theorem pI {t:TypeId} (h:fu P t=some .tI):∃k,P.underlying t=some (.int k):=by unfold fu at h;split at h<;>simp_all
theorem pJ {t:TypeId} (h:fu P t=some .tS):P.underlying t=some .string:=by unfold fu at h;split at h<;>simp_all
theorem rZ {d:Nat} {t:TypeId} {s:TS} {x y:AV} {u u':Value} {b:Bool} (hx:cW P w D ι x u) (hy:cW P w D ι y u') (hv:fD s x y=some b) (ht:fu P t=some s):(Op.equalIn (d+1) t u u').run P w=.ok b w:=by
 unfold fD at hv
 split at hv
 ·rename_i k n k' m
  split at hv
  ·rename_i hk
   subst hk
   simp at hv;subst hv
   obtain⟨q,hq⟩:=pI ht
   rw[du hx,du hy,run_equalIn_int _ _ _ _ _ _ _ hq];rfl
  ·simp at hv
 ·simp at hv;subst hv
  rw[e5 hx,e5 hy,run_equalIn_bool' _ _ _ _ _ (pH ht)]
 ·simp at hv;subst hv
  rw[fE hx,fE hy,run_equalIn_string _ _ _ _ _ (pJ ht),FB]
 ·simp at hv
def fA (P:Program) (w:World) (D:Nat->Prop) (ι:Names) (xs:List AV) (vs:Array Value):Prop:=vs.size=xs.length/\∀(j:Nat) (a:AV),xs[j]? =some a->∃u,vs[j]? =some u/\cW P w D ι a u
theorem fA.part {xs:List AV} {vs:Array Value} (h:fA P w D ι xs vs) (off n:Nat) (hn:off+n<=xs.length):fA P w D ι ((xs.drop off).take n) (vs.extract off (off+n)):=by
 refine⟨by simp[h.1];omega,fun j a ha=>?_⟩
 rw[List.getElem?_take]at ha
 split at ha
 ·rename_i hj
  rw[List.getElem?_drop]at ha
  obtain⟨u,h1,h2⟩:=h.2 _ _ ha
  refine⟨u,?_,h2⟩
  rw[Array.getElem?_extract]
  rw[if_pos (by rw[h.1];omega),h1]
 ·simp at ha
theorem rz:∀{ts:List TS} {xs ys:List AV} {b:Bool},eS ts xs ys=some b->xs.length=ts.length/\ys.length=ts.length
 |[],[],[],_,_=>⟨rfl,rfl⟩
 |t::ts,x::xs,y::ys,b,h=>by
  unfold eS at h
  split at h
  ·rename_i c d h1 h2
   have:=rz h2
   simp[this.1,this.2]
  ·simp at h
 |[],[],_::_,_,h=>by simp[eS]at h
 |[],_::_,_,_,h=>by simp[eS]at h
 |_::_,[],_,_,h=>by simp[eS]at h
 |_::_,_::_,[],_,h=>by simp[eS]at h
theorem EW:∀{ts us:List TS} {xs ys:List AV} {b:Bool},eS (ts++us) xs ys=some b->∃c d,eS ts (xs.take ts.length) (ys.take ts.length)=some c/\eS us (xs.drop ts.length) (ys.drop ts.length)=some d/\b=(c&&d)
 |[],us,xs,ys,b,h=>⟨true,b,by simp[eS],by simpa using h,by simp⟩
 |t::ts,us,x::xs,y::ys,b,h=>by
  simp only[List.cons_append]at h
  unfold eS at h
  split at h
  ·rename_i c d h1 h2
   obtain⟨c',d',h3,h4,rfl⟩:=EW h2
   simp at h;subst h
   exact⟨c&&c',d',by simp[eS,h1,h3],by simpa using h4,by simp[Bool.and_assoc]⟩
  ·simp at h
 |t::ts,us,[],ys,b,h=>by simp[eS]at h
 |t::ts,us,x::xs,[],b,h=>by simp[eS]at h
theorem mJ {t:TypeId} {vs:Array Value} {off:Nat} {u:Value} (ha:nP P t=some false) (hu:vs[off]? =some u):(Go.part t vs off).run P w=.ok u w:=by
 unfold nP at ha
 have hi:(isAgg t).run P w=.ok false w:=by
  split at ha<;>simp at ha
  rename_i d h1 h2 hd
  simp only[isAgg,Sem.run_bind,run_underlying hd,Result.andThen_ok]
  cases d<;>simp_all
 simp[Go.part,hi,hu]
theorem s8 {t:TypeId} {b:Bool} (ha:nP P t=some b):(isAgg t).run P w=.ok b w:=by
 unfold nP at ha
 split at ha<;>simp at ha<;>subst ha<;>rename_i hd<;>simp only[isAgg,Sem.run_bind,run_underlying hd,Result.andThen_ok]<;>(try simp)
theorem run_sizeOf {t:TypeId} {n:Nat} (h:er P t=some n):(sizeOf t).run P w=.ok n w:=by
 unfold er at h
 simp only[Option.map_eq_some_iff]at h
 obtain⟨i,hi,rfl⟩:=h
 simp[sizeOf,typeInfo,hi]
theorem pG {t:TypeId} {vs:Array Value} {off n:Nat} (ha:nP P t=some true) (hn:er P t=some n):(Go.part t vs off).run P w=.ok (.agg (vs.extract off (off+n))) w:=by
 simp[Go.part,s8 ha,run_sizeOf hn]
theorem Iw (d off:Nat):eJ P (d+1) off []=some []:=rfl
theorem yc (d off:Nat) (f:Field) (r:List Field):eJ P (d+1) off (f::r)=(if f.offset=off/\f.name≠ "_" then
   match fu P f.type with
   |some t=>if nP P f.type=some false then(eJ P (d+1) (off+1) r).map (t::·)else none
   |none=>match P.underlying f.type with
    |some (.struct fs)=>if !P.stoodInHeld f.type then match eJ P d 0 fs.toList with
     |some ts=>if er P f.type=some ts.length/\ts≠[]then(eJ P (d+1) (off+ts.length) r).map (ts++·)else none
     |none=>none else none
    |_=>none
  else none):=rfl
theorem rY:∀(d:Nat) (fs:List Field) (off:Nat) (ts:List TS),eJ P d off fs=some ts->∀(N:Nat) (_:d<=N) (xs ys:List AV) (vs us:Array Value) (b:Bool),fA P w D ι xs vs->fA P w D ι ys us->
  eS ts ((xs.drop off).take ts.length) ((ys.drop off).take ts.length)=some b->(Op.eqFields (N+1) vs us fs).run P w=.ok b w:=by
 intro d
 induction d with
 |zero=>
  intro fs off ts hf N _ xs ys vs us b _ _ he
  cases fs with
  |nil=>simp[eJ]at hf;subst hf;simp[eS]at he;subst he;simp[Op.eqFields]
  |cons f r=>simp[eJ]at hf
 |succ d ihd=>
  intro fs
  induction fs with
  |nil=>
   intro off ts hf N _ xs ys vs us b _ _ he
   rw[Iw]at hf;simp at hf;subst hf;simp[eS]at he;subst he;simp[Op.eqFields]
  |cons f r ih=>
   intro off ts hf N hN xs ys vs us b hx hy he
   rw[yc]at hf
   split at hf
   ·rename_i hcond
    obtain⟨ho,ik⟩:=hcond
    split at hf
    ·rename_i s hs
     split at hf
     ·rename_i uy
      simp only[Option.map_eq_some_iff]at hf
      obtain⟨Nn,hr,rfl⟩:=hf
      obtain⟨l1,l2⟩:=rz he
      simp only[List.length_cons,List.length_take,List.length_drop]at l1 l2
      have zJ:off<xs.length:=by omega
      have hyo:off<ys.length:=by omega
      rw[List.drop_eq_getElem_cons zJ,List.drop_eq_getElem_cons hyo,List.length_cons,List.take_succ_cons,List.take_succ_cons]at he
      unfold eS at he
      split at he
      ·rename_i c d' h1 h2
       simp at he;subst he
       obtain⟨u,hu,ru⟩:=hx.2 off _ (List.getElem?_eq_getElem zJ)
       obtain⟨u',Fg,ru'⟩:=hy.2 off _ (List.getElem?_eq_getElem hyo)
       have:=ih (off+1) Nn hr N hN xs ys vs us d' hx hy h2
       simp only[Op.eqFields,if_pos ik,Sem.run_bind,ho,mJ uy hu,mJ uy Fg,Result.andThen_ok,rZ ru ru' h1 hs,Sem.run_ite]
       cases c<;>simp[this]
      ·simp at he
     ·simp at hf
    ·split at hf
     ·rename_i fs' rF
      split at hf
      ·rename_i dK
       split at hf
       ·rename_i ts1 hts1
        split at hf
        ·rename_i ft
         simp only[Option.map_eq_some_iff]at hf
         obtain⟨Nn,hr,rfl⟩:=hf
         obtain⟨c,d',h1,h2,rfl⟩:=EW he
         obtain⟨l1,l2⟩:=rz he
         simp only[List.length_append,List.length_take,List.length_drop]at l1 l2
         have uy:nP P f.type=some true:=by simp[nP,rF]
         have kn:0<ts1.length:=List.length_pos_iff.2 ft.2
         have M9:off+ts1.length<=xs.length:=by omega
         have hy1:off+ts1.length<=ys.length:=by omega
         rw[List.drop_take,List.drop_drop,List.drop_take,List.drop_drop]at h2
         rw[List.take_take,List.take_take]at h1
         simp only[List.length_append]at h1 h2
         rw[Nat.min_eq_left (by omega)]at h1
         have e2:ts1.length+Nn.length-ts1.length=Nn.length:=by omega
         rw[e2]at h2
         have:=ih (off+ts1.length) Nn hr N hN xs ys vs us d' hx hy h2
         have fc:=ihd fs'.toList 0 ts1 hts1 (N-1) (by omega) _ _ _ _ c (hx.part off ts1.length M9) (hy.part off ts1.length hy1) (by simpa[List.take_take]using h1)
         have hN':N-1+1=N:=by omega
         rw[hN']at fc
         have II:P.fieldsOf f.type=fs':=by simp[Program.fieldsOf,rF]
         simp only[Op.eqFields,if_pos ik,Sem.run_bind,ho,pG uy ft.1,Result.andThen_ok,Sem.run_ite]
         rw[run_equalIn_struct w N f.type _ _ (by rw[II];exact rF) (by simpa using dK),II,fc]
         cases c<;>simp[this]
        ·simp at hf
       ·simp at hf
      ·simp at hf
     ·simp at hf
   ·simp at hf
theorem R9 {x y:Operand} {x' y':O} {t yt:TypeId} {neg:Bool} {s:TS} {b:Bool} (E:ck P w D ι env a) (ho:o.op=.binOp (if neg then .neq else .eql) t x y yt) (hs:fu P t=some s) (hx:cO P x=some x') (hy:cO P y=some y')
  (hv:fD s (cX env x') (cX env y')=some b):oj P a o w D ι (.bool (di neg b)):=by
 have rx:=dj E hx
 have ry:=dj E hy
 refine⟨.bool (di neg b),?_,.eQ _ _ (.bool _)⟩
 have e0:(eqGuard (if neg then .neq else .eql) t x y (a.eval x) (a.eval y)).run P w=.ok () w:=by
  unfold fD at hv
  split at hv
  ·rename_i k n k' m h1 h2
   rw[h1]at rx;rw[h2]at ry
   rw[du rx,du ry];unfold eqGuard;cases neg<;>simp
  ·rename_i n m h1 h2
   rw[h1]at rx;rw[h2]at ry
   rw[e5 rx,e5 ry];unfold eqGuard;cases neg<;>simp
  ·rename_i n m h1 h2
   rw[h1]at rx;rw[h2]at ry
   rw[fE rx,fE ry];unfold eqGuard;cases neg<;>simp
  ·simp at hv
 have e1:(binOp (if neg then .neq else .eql) t (a.eval x) (a.eval y)).run P w=.ok (.bool (di neg b)) w:=by
  have q:=rZ (d:=9999) rx ry hv hs
  unfold fD at hv
  split at hv
  ·rename_i k n k' m h1 h2
   split at hv
   ·rename_i hk
    subst hk
    simp at hv;subst hv
    rw[h1]at rx;rw[h2]at ry
    rw[du rx,du ry]
    cases neg<;>simp only[binOp,ne_eq,not_true_eq_false,if_false,Op.intCmp,di,if_true,Bool.false_eq_true]<;>simp[bne]<;>rfl
   ·simp at hv
  ·rename_i n m h1 h2
   rw[h1]at rx;rw[h2]at ry
   rw[e5 rx,e5 ry]at q ⊢
   cases neg<;>simp only[binOp,di,if_true,Bool.false_eq_true,if_false,Sem.run_bind]<;>simp[Op.equal,Op.maxDepth,q]
  ·rename_i n m h1 h2
   simp at hv;subst hv
   rw[h1]at rx;rw[h2]at ry
   rw[fE rx,fE ry]
   cases neg<;>simp[binOp,Op.stringOp,di,FB]
  ·simp at hv
 simp only[execOp,ho,Sem.run_bind,e0,e1,Result.andThen_ok,Sem.run_pure]
theorem R7 {x y:Operand} {x' y':O} {t yt:TypeId} {neg:Bool} {ts:List TS} {fs:Array Field} {xs ys:List AV} {b:Bool} (E:ck P w D ι env a) (ho:o.op=.binOp (if neg then .neq else .eql) t x y yt) (rF:P.underlying t=some (.struct fs)) (dK:P.stoodInHeld t=false) (Lq:P.eqGuardType P.depth t=false)
  (xE:eJ P 4 0 fs.toList=some ts) (hx:cO P x=some x') (hy:cO P y=some y') (h1:cX env x'=.agg xs) (h2:cX env y'=.agg ys)
  (hv:eS ts xs ys=some b):oj P a o w D ι (.bool (di neg b)):=by
 obtain⟨vs,f,rx,n1,_,f1,r1⟩:=iX (h1▸dj E hx)
 obtain⟨us,f',ry,n2,_,f2,r2⟩:=iX (h2▸dj E hy)
 refine⟨.bool (di neg b),?_,.eQ _ _ (.bool _)⟩
 obtain⟨l1,l2⟩:=rz hv
 have L:∀(xs:List AV) (vs:Array Value) (f:Nat->Value),vs.size=xs.length->(∀j,j<xs.length->vs[j]? =some (f j))->(∀j a,xs[j]? =some a->cW P w D ι a (f j))->fA P w D ι xs vs:=fun xs vs f h1 h2 h3=>
  ⟨h1,fun j a ha=>⟨f j,h2 j (List.getElem?_eq_some_iff.1 ha).1,h3 j a ha⟩⟩
 have q:=rY (w:=w) 4 fs.toList 0 ts xE 9998 (by omega) xs ys vs us b (L _ _ _ n1 f1 r1) (L _ _ _ n2 f2 r2) (by simpa[List.take_of_length_le,l1,l2]using hv)
 have II:P.fieldsOf t=fs:=by simp[Program.fieldsOf,rF]
 have q2:(Op.equal t (.agg vs) (.agg us)).run P w=.ok b w:=by
  unfold Op.equal
  rw[show Op.maxDepth=9999+1 from rfl,run_equalIn_struct w 9999 t _ _ (by rw[II];exact rF) dK,II,q]
 simp only[execOp,ho,Sem.run_bind,rx,ry,run_eqGuard_agg w _ _ _ _ _ _ Lq,Result.andThen_ok]
 cases neg<;>simp[binOp,q2,di]
theorem Py {x:Operand} {x':O} {t yt e:TypeId} {neg:Bool} {b:Bool} (E:ck P w D ι env a) (ho:o.op=.binOp (if neg then .neq else .eql) t x (.const (.slice none 0 0)) yt) (ht:P.underlying t=some (.slice e)) (hx:cO P x=some x')
  (hv:cN (cX env x')=some b):oj P a o w D ι (.bool (di neg b)):=by
 have hr:=dj E hx
 have rx:∃A n c,a.eval x=.slice A n c/\b=A.isNone:=by
  unfold cN at hv
  split at hv<;>simp at hv<;>subst hv<;>rename_i hh
  ·rw[hh]at hr;exact⟨_,_,_,kf hr,rfl⟩
  ·rw[hh]at hr;obtain⟨o,cap,B,h,_⟩:=iY hr
   exact⟨_,_,_,h,rfl⟩
  ·rw[hh]at hr
   obtain⟨A,c,h',_,_,h⟩:=wK hr
   rcases h with h|⟨b,o,sz,vs,rfl,_⟩
   ·simp at h
   ·exact⟨_,_,_,h',rfl⟩
 refine⟨.bool (di neg b),?_,.eQ _ _ (.bool _)⟩
 obtain⟨A,n,c,h,rfl⟩:=rx
 have hq:(Op.equal t (.slice A n c) (.slice none 0 0)).run P w=.ok A.isNone w:=by
  unfold Op.equal
  rw[show Op.maxDepth=9999+1 from rfl,Op.equalIn]
  simp only[Sem.run_bind,run_underlying ht,Result.andThen_ok]
  cases A<;>rfl
 have hc:a.eval (.const (.slice none 0 0))=.slice none 0 0:=rfl
 simp only[execOp,ho,h,hc]
 cases neg<;>simp only[Bool.false_eq_true,if_false,if_true,Bool.not_true,Bool.not_false,eqGuard,binOp,di,Sem.run_bind,hq,Result.andThen_ok,Sem.run_pure]
theorem R8 {x:Operand} {x':O} {t yt e:TypeId} {neg:Bool} {b:Bool} (E:ck P w D ι env a) (ho:o.op=.binOp (if neg then .neq else .eql) t x (.const (.pointer none)) yt) (ht:P.underlying t=some (.pointer e)) (hx:cO P x=some x')
  (hv:Ko (cX env x')=some b):oj P a o w D ι (.bool (di neg b)):=by
 have hr:=dj E hx
 have rx:∃A,a.eval x=.pointer A/\b=A.isNone:=by
  unfold Ko at hv
  split at hv<;>simp at hv<;>subst hv<;>rename_i hh
  ·rw[hh]at hr;exact⟨_,JP hr,rfl⟩
  ·rw[hh]at hr;obtain⟨B,h,_⟩:=iH hr
   exact⟨_,h,rfl⟩
  ·rw[hh]at hr;obtain⟨_,_,_,h,_⟩:=k8 hr
   exact⟨_,h,rfl⟩
 refine⟨.bool (di neg b),?_,.eQ _ _ (.bool _)⟩
 obtain⟨A,h,rfl⟩:=rx
 have hq:(Op.equal t (.pointer A) (.pointer none)).run P w=.ok A.isNone w:=by
  unfold Op.equal
  rw[show Op.maxDepth=9999+1 from rfl,Op.equalIn]
  simp only[Sem.run_bind,run_underlying ht,Result.andThen_ok]
  cases A<;>rfl
 have hc:a.eval (.const (.pointer none))=.pointer none:=rfl
 simp only[execOp,ho,h,hc]
 cases neg<;>simp only[Bool.false_eq_true,if_false,if_true,Bool.not_true,Bool.not_false,eqGuard,binOp,di,Sem.run_bind,hq,Result.andThen_ok,Sem.run_pure]
theorem Px {x:Operand} {x':O} {t yt:TypeId} {p r:Array TypeId} {va:Bool} {neg:Bool} {b:Bool} (E:ck P w D ι env a) (ho:o.op=.binOp (if neg then .neq else .eql) t x (.const .nilFunc) yt) (ht:P.underlying t=some (.func p r va)) (hx:cO P x=some x')
  (hv:cL (cX env x')=some b):oj P a o w D ι (.bool (di neg b)):=by
 have hr:=dj E hx
 have rx:a.eval x=.nilFunc/\b=true∨∃f c,a.eval x=.func f #[] c/\b=false:=by
  unfold cL at hv
  split at hv<;>simp at hv<;>subst hv<;>rename_i hh
  ·rw[hh]at hr;exact .inl ⟨wJ hr,rfl⟩
  ·rw[hh]at hr;obtain⟨vs,g,h,_⟩:=Aa hr
   exact .inr ⟨_,_,h,rfl⟩
 refine⟨.bool (di neg b),?_,.eQ _ _ (.bool _)⟩
 have hc:a.eval (.const .nilFunc)=.nilFunc:=rfl
 rcases rx with⟨h,rfl⟩|⟨f,c,h,rfl⟩
 ·have hq:(Op.equal t .nilFunc .nilFunc).run P w=.ok true w:=by
   unfold Op.equal
   rw[show Op.maxDepth=9999+1 from rfl,Op.equalIn]
   simp only[Sem.run_bind,run_underlying ht,Result.andThen_ok]
   rfl
  simp only[execOp,ho,h,hc]
  cases neg<;>simp only[Bool.false_eq_true,if_false,if_true,Bool.not_true,Bool.not_false,eqGuard,binOp,di,Sem.run_bind,hq,Result.andThen_ok,Sem.run_pure]
 ·have hq:(Op.equal t (.func f #[] c) .nilFunc).run P w=.ok false w:=by
   unfold Op.equal
   rw[show Op.maxDepth=9999+1 from rfl,Op.equalIn]
   simp only[Sem.run_bind,run_underlying ht,Result.andThen_ok]
   rfl
  simp only[execOp,ho,h,hc]
  cases neg<;>simp only[Bool.false_eq_true,if_false,if_true,Bool.not_true,Bool.not_false,eqGuard,binOp,di,Sem.run_bind,hq,Result.andThen_ok,Sem.run_pure]
theorem Sc {x:Operand} {x':O} {t:TypeId} (E:ck P w D ι env a) (ho:o.op=.unOp .not t x) (hx:cO P x=some x') (hv:dX (cX env x')=some v):oj P a o w D ι v:=by
 have hr:=dj E hx
 unfold dX at hv
 split at hv
 ·rename_i b hb
  simp at hv;subst hv
  rw[hb]at hr
  exact⟨_,by simp only[execOp,ho,e5 hr];rfl,.eQ _ _ (.bool _)⟩
 ·simp at hv
theorem Sb {x:Operand} {x':O} {t:TypeId} (E:ck P w D ι env a) (ho:o.op=.unOp .neg t x) (hx:cO P x=some x') (hv:dV (cX env x')=some v):oj P a o w D ι v:=by
 have hr:=dj E hx
 unfold dV at hv
 split at hv
 ·rename_i k n hb
  simp at hv;subst hv
  rw[hb]at hr
  refine⟨_,by simp only[execOp,ho,du hr];rfl,?_⟩
  rw[Int.zero_sub];exact .eQ _ _ (.int _ _)
 ·simp at hv
theorem Pw {x:Operand} {x':O} {s d:TypeId} {k q:IntKind} (E:ck P w D ι env a) (ho:o.op=.convert s d x) (hs:P.underlying s=some (.int q)) (hd:P.underlying d=some (.int k)) (hx:cO P x=some x') (hv:cE k (cX env x')=some v):oj P a o w D ι v:=by
 have hr:=dj E hx
 unfold cE at hv
 split at hv
 ·rename_i k' n hb
  simp at hv;subst hv
  rw[hb]at hr
  refine⟨.int k (k.wrap n),?_,.eQ _ _ (.int _ _)⟩
  simp only[execOp,ho,du hr,convert,Sem.run_bind,run_underlying hs,run_underlying hd,Result.andThen_ok,Conv.intToInt,Sem.run_pure]
 ·simp at hv
theorem My {x:Operand} {x':O} {s:TypeId} {i:Nat} {fs:Array Field} {f:Field} {m:Nat} (E:ck P w D ι env a) (ho:o.op=.fieldAddr s x i) (hs:P.underlying s=some (.struct fs)) (hf:fs[i]? =some f) (hm:er P f.type=some (m+1)) (hx:cO P x=some x')
  (hv:EG f.offset (cX env x')=some v):oj P a o w D ι v:=by
 have hr:=dj E hx
 have go:∀b oo,a.eval x=.pointer (some ⟨b,oo,none⟩)->(execOp a.eval o).run P w=.ok (.value (.pointer (some ⟨b,oo+f.offset,none⟩))) w:=fun b oo h=>by
  simp only[execOp,ho,h,Instr.fieldAt,Sem.run_bind,run_underlying hs,Result.andThen_ok,hf,Instr.sureAddr,Sem.run_pure,fieldPlace,run_sizeOf hm,Nat.add_eq_zero_iff,Nat.one_ne_zero,and_false,if_false,Addr.add]
  split
  ·rename_i h0;simp[h0]
  ·rfl
 unfold EG at hv
 split at hv
 ·rename_i j0 i' oo hb
  simp at hv;subst hv
  rw[hb]at hr
  obtain⟨B,h,hB,hk⟩:=iH hr
  refine⟨_,go _ _ h,?_⟩
  rw[Nat.add_assoc]
  exact .ptr _ _ _ _ hB hk
 ·rename_i cs hb
  simp at hv;subst hv
  rw[hb]at hr
  obtain⟨b,oo,vs,h,h1,h2,h3,h4⟩:=k8 hr
  refine⟨_,go _ _ h,.eQ _ _ (.cR _ _ _ (fun j=>vs (f.offset+j)) h1 (fun a ha=>h2 a (List.mem_of_mem_drop ha)) (fun j hj=>?_) (fun j a ha=>h4 _ _ (by simpa using ha)))⟩
  rw[Nat.add_assoc]
  exact h3 _ (by simp at hj;omega)
 ·simp at hv
theorem Mz {x:Operand} {x':O} {s:TypeId} {i n:Nat} {ag:Bool} {fs:Array Field} {f:Field} (E:ck P w D ι env a) (ho:o.op=.field s x i) (hs:P.underlying s=some (.struct fs)) (hf:fs[i]? =some f) (uy:nP P f.type=some ag) (hm:er P f.type=some n) (hx:cO P x=some x')
  (hv:bz ag f.offset n (cX env x')=some v):oj P a o w D ι v:=by
 have hr:=dj E hx
 unfold bz at hv
 split at hv
 ·rename_i cs hb
  split at hv
  ·rename_i hl
   rw[hb]at hr
   obtain⟨vs,g,h,n1,fl,f1,r1⟩:=iX hr
   unfold part at hv
   cases ag with
   |true=>
    simp only[if_true]at hv
    split at hv
    ·simp at hv;subst hv
     refine⟨.agg (vs.extract f.offset (f.offset+n)),?_,.agg _ _ (fun j=>g (f.offset+j)) (by simp[n1];omega) (fun a ha=>fl a (List.mem_of_mem_drop (List.mem_of_mem_take ha))) (fun j hj=>?_) (fun j a ha=>?_)⟩
     ·simp only[execOp,ho,h,Instr.field,Sem.run_bind,run_underlying hs,Result.andThen_ok,hf,asAgg,Sem.run_pure,pG uy hm]
     ·simp at hj
      rw[Array.getElem?_extract,if_pos (by omega)];exact f1 _ (by omega)
     ·rw[List.getElem?_take]at ha
      split at ha
      ·exact r1 _ _ (by simpa using ha)
      ·simp at ha
    ·simp at hv
   |false=>
    simp only[Bool.false_eq_true,if_false]at hv
    have nU:cs[f.offset]? =some v:=by simpa[List.head?_drop]using hv
    have dJ:=(List.getElem?_eq_some_iff.1 nU).1
    exact⟨g f.offset,by simp only[execOp,ho,h,Instr.field,Sem.run_bind,run_underlying hs,Result.andThen_ok,hf,asAgg,Sem.run_pure,mJ uy (f1 _ dJ)],r1 _ _ nU⟩
  ·simp at hv
 ·simp at hv
theorem Sd {left:Bool} {x y:Operand} {x' y':O} {t yt:TypeId} (E:ck P w D ι env a) (ho:o.op=.binOp (if left then .shl else .shr) t x y yt) (hx:cO P x=some x') (hy:cO P y=some y') (hv:gK left (cX env x') (cX env y')=some v):oj P a o w D ι v:=by
 unfold gK at hv
 split at hv
 ·rename_i k n k' m hb sK
  split at hv
  ·simp at hv
  ·rename_i hm
   simp at hv;subst hv
   have h1:=du (hb▸dj E hx)
   have h2:=du (sK▸dj E hy)
   refine⟨_,?_,.eQ _ _ (.int _ _)⟩
   simp only[execOp,ho,h1,h2]
   cases left<;>simp only[Bool.false_eq_true,if_false,if_true,eqGuard,Bool.not_true,Bool.not_false,binOp,Op.shift,hm,Sem.run_bind,Sem.run_pure,Result.andThen_ok]<;>rfl
 ·simp at hv
end
end Go.Proofs.YtgoljkjaameagaaGreat.V

namespace Go.Proofs.YtgoljkjaameagaaGreat.V
open Go.RowKit
variable {P:Program} {w w':World} {D D':Nat->Prop} {ι ι':Names}
theorem ki (b o j:Nat):(⟨b,o,none⟩:Addr).add j=⟨b,o+j,none⟩:=by unfold Addr.add;split<;>simp_all
section
variable {g:Rows} {hs:Nat} {env:Env} {a:Act} {o:Oper} {id:Id} {v:AV}
theorem kI {t:TypeId} {ag:Bool} {n b oo:Nat} {cs:List AV} {v:AV} {f:Nat->Value} (uy:nP P t=some ag) (hn:er P t=some n) (hp:part ag n cs=some v) (fl:∀a∈cs,a.cell=true)
  (hc:∀j,j<cs.length->w.cell? ⟨b,oo+j,none⟩=some (f j)) (hr:∀j a,cs[j]? =some a->cW P w D ι a (f j)):∃u,(loadVar t ⟨b,oo,none⟩).run P w=.ok u w/\cW P w D ι v u:=by
 unfold part at hp
 cases ag with
 |true=>
  simp only[if_true]at hp
  split at hp
  ·rename_i hl
   simp at hp;subst hp
   refine⟨.agg ((List.range n).map f).toArray,?_,.agg _ _ f (by simp;omega) (fun a ha=>fl a (List.mem_of_mem_take ha)) (fun j hj=>?_) (fun j a ha=>?_)⟩
   ·simp only[loadVar,Sem.run_bind,s8 uy,Result.andThen_ok,if_true,run_sizeOf hn,Sem.run_pure]
    rw[run_loadCells w _ n f (fun j hj=>by rw[ki];exact hc j (by omega))]
    rfl
   ·simp at hj
    have:j<n:=by omega
    simp[this]
   ·rw[List.getElem?_take]at ha
    split at ha
    ·exact hr _ _ ha
    ·simp at ha
  ·simp at hp
 |false=>
  simp only[Bool.false_eq_true,if_false]at hp
  cases cs with
  |nil=>simp at hp
  |cons c r=>
   simp at hp;subst hp
   refine⟨f 0,?_,hr 0 _ rfl⟩
   simp only[loadVar,Sem.run_bind,s8 uy,Result.andThen_ok,Bool.false_eq_true,if_false]
   have:=hc 0 (by simp)
   simp at this
   rw[run_load,this]
theorem JZ {S:gw P hs D ι g w} {i:Nat} {cs:List AV} (h:rowAt g id i=some cs) (hk:∀B,ι id=some B->B.k=none):∃B r,g id=some r/\ι id=some B/\lI P w D ι B r/\r.rows[i]? =some cs/\(∀a∈cs,a.cell=true)/\∃f:Nat->Value,∀j,j<cs.length->w.cell? ⟨B.b,i*B.sz+j,none⟩=some (f j)/\∀a,cs[j]? =some a->cW P w D ι a (f j):=by
 unfold rowAt at h
 simp only[Option.bind_eq_some_iff]at h
 obtain⟨r,hr,hi⟩:=h
 obtain⟨B,hB,R,_,_⟩:=S.row id r hr
 replace R:=R.row (hk B hB)
 refine⟨B,r,hr,hB,R,hi,R.flat cs (List.mem_of_getElem? hi),fun j=>(w.cell? ⟨B.b,i*B.sz+j,none⟩).getD undef,fun j hj=>?_⟩
 obtain⟨u,hu,xD⟩:=R.at_ i j cs _ hi (List.getElem?_eq_getElem hj)
 rw[R.sz,hu]
 refine⟨by simp only[hu,Option.getD_some],fun a ha=>?_⟩
 rw[List.getElem?_eq_getElem hj]at ha
 injection ha with ha
 subst ha
 simpa only[hu,Option.getD_some]using xD
theorem PG {x:Operand} {x':O} {t:TypeId} {ag:Bool} {n:Nat} (S:gw P hs D ι g w) (E:ck P w D ι env a) (ho:o.op=.load t x) (uy:nP P t=some ag) (hn:er P t=some n) (hx:cO P x=some x') (hv:ld g ag n (cX env x')=some v):oj P a o w D ι v:=by
 have hr:=dj E hx
 have go:∀b oo u,a.eval x=.pointer (some ⟨b,oo,none⟩)->(loadVar t ⟨b,oo,none⟩).run P w=.ok u w->(execOp a.eval o).run P w=.ok (.value u) w:=fun b oo u h h2=>by
  simp only[execOp,ho,h,Instr.loadAt,Instr.sureAddr,Sem.run_bind,Sem.run_pure,Result.andThen_ok,h2]
 unfold ld at hv
 split at hv
 ·rename_i j0 i' oo hb
  rw[hb]at hr
  obtain⟨B,h,hB,hk⟩:=iH hr
  simp only[Option.bind_eq_some_iff]at hv
  obtain⟨cs,dq,hp⟩:=hv
  obtain⟨B',r,CE,dF,R,hi,fl,f,hf⟩:=JZ (S:=S) dq (fun B2 h2=>by rw[hB]at h2;injection h2 with h2;subst h2;exact hk)
  rw[hB]at dF;injection dF with dF;subst dF
  obtain⟨u,h1,h2⟩:=kI (w:=w) (b:=B.b) (oo:=i'*B.sz+oo) (f:=fun j=>f (oo+j)) uy hn hp (fun a ha=>fl a (List.mem_of_mem_drop ha)) (fun j hj=>by
   rw[Nat.add_assoc];exact(hf _ (by simp at hj;omega)).1) (fun j a ha=>by
   simp at ha;exact(hf _ ((List.getElem?_eq_some_iff.1 ha).1)).2 _ ha)
  exact⟨u,go _ _ _ h h1,h2⟩
 ·rename_i cs hb
  rw[hb]at hr
  obtain⟨b,oo,vs,h,h1,h2,h3,h4⟩:=k8 hr
  obtain⟨u,k1,k2⟩:=kI (w:=w) (b:=b) (oo:=oo) (f:=vs) uy hn hv h2 h3 (fun j a ha=>.eQ _ _ (h4 j a ha))
  exact⟨u,go _ _ _ h k1,k2⟩
 ·simp at hv
theorem R6 {x:Operand} {x':O} (E:ck P w D ι env a) (ho:o.op=.nilCheck x) (hx:cO P x=some x') (hv:dS (cX env x')=some v):oj P a o w D ι v:=by
 have hr:=dj E hx
 unfold dS at hv
 split at hv
 ·rename_i j0 i' oo hb
  simp at hv;subst hv
  rw[hb]at hr
  obtain⟨B,h,hB,hk⟩:=iH hr
  exact⟨_,by simp only[execOp,ho,h];rfl,.ptr _ _ _ _ hB hk⟩
 ·rename_i cs hb
  simp at hv;subst hv
  rw[hb]at hr
  obtain⟨b,oo,vs,h,_⟩:=k8 hr
  exact⟨_,by simp only[execOp,ho,h];rfl,h▸hr⟩
 ·simp at hv
theorem MA {x i:Operand} {x' i':O} {t e:TypeId} {m:Nat} (S:gw P hs D ι g w) (E:ck P w D ι env a) (ho:o.op=.indexAddr t x i) (ht:P.underlying t=some (.slice e)) (hm:er P e=some (m+1)) (hx:cO P x=some x') (hi:cO P i=some i')
  (hv:bB g (m+1) (cX env x') (cX env i')=some v):oj P a o w D ι v:=by
 have hr:=dj E hx
 have DE:=dj E hi
 have go:∀b oo n c k (q:Int),a.eval x=.slice (some ⟨b,oo,none⟩) n c->a.eval i=.int k q->0<=q->q<n->(execOp a.eval o).run P w=.ok (.value (.pointer (some ⟨b,oo+q.toNat*(m+1),none⟩))) w:=fun b oo n c k q h h2 h3 h4=>by
  simp only[execOp,ho,h,h2,Instr.indexAt,asIntOf,Sem.run_bind,Sem.run_pure,run_underlying ht,Result.andThen_ok,h3,h4,and_self,if_true,run_sizeOf hm,ki]
 unfold bB at hv
 split at hv
 ·rename_i rows k q hb sK
  split at hv
  ·rename_i hq
   simp only[Option.bind_eq_some_iff]at hv
   obtain⟨cs,dq,hv⟩:=hv
   split at hv
   ·rename_i hlen
    simp at hv;subst hv
    rw[hb]at hr;rw[sK]at DE
    have dJ:=(List.getElem?_eq_some_iff.1 dq).1
    obtain⟨A,c,h,h1,h2,h3⟩:=wK hr
    rcases h3 with h3|⟨b,oo,sz,vs,rfl,hD,hl,fl,hc,hi⟩
    ·subst h3;simp at dq
    have ft:sz=m+1:=by rw[<-hlen,hl cs (List.mem_of_getElem? dq)]
    refine⟨_,go b oo _ _ k q h (du DE) hq (by omega),.eQ _ _ (.cR cs b _ (vs q.toNat) hD (fl cs (List.mem_of_getElem? dq)) (fun j hj=>?_) (fun j a ha=>hi _ _ _ _ dq ha))⟩
    have:=hc q.toNat j dJ (by rw[<-hl cs (List.mem_of_getElem? dq)];exact hj)
    rw[ft]at this
    rw[Nat.add_assoc];exact this
   ·simp at hv
  ·simp at hv
 ·rename_i j0 off len k q hb sK
  split at hv
  ·rename_i hq
   simp only[Option.bind_eq_some_iff]at hv
   obtain⟨r,CE,hv⟩:=hv
   split at hv
   ·rename_i ym
    simp at hv;subst hv
    rw[hb]at hr;rw[sK]at DE
    obtain⟨oo,cap,B,h,hB,h1,h2,h3,h4,hk⟩:=iY hr
    obtain⟨B',dF,R,_,_⟩:=S.row _ _ CE
    rw[hB]at dF;injection dF with dF;subst dF
    replace R:=R.row hk
    have ft:B.sz=m+1:=R.sz.trans ym
    refine⟨_,go _ _ _ _ k q h (du DE) hq.1 hq.2,?_⟩
    have Cz:oo=off*B.sz:=by rcases h2 with h2|h2<;>omega
    have:oo+q.toNat*(m+1)=(off+q.toNat)*B.sz+0:=by rw[Cz,<-ft,Nat.add_mul];rfl
    rw[this]
    exact .ptr _ _ _ _ hB hk
   ·simp at hv
  ·simp at hv
 ·simp at hv
theorem Pz {x i:Operand} {x' i':O} {t e:TypeId} {m len:Nat} (E:ck P w D ι env a) (ho:o.op=.indexAddr t x i) (ht:P.underlying t=some (.array len e)) (hm:er P e=some (m+1)) (hx:cO P x=some x') (hi:cO P i=some i')
  (hv:cF len (m+1) (cX env x') (cX env i')=some v):oj P a o w D ι v:=by
 have hr:=dj E hx
 have DE:=dj E hi
 have go:∀b oo k (q:Int),a.eval x=.pointer (some ⟨b,oo,none⟩)->a.eval i=.int k q->0<=q->q<len->(execOp a.eval o).run P w=.ok (.value (.pointer (some ⟨b,oo+q.toNat*(m+1),none⟩))) w:=fun b oo k q h h2 h3 h4=>by
  simp only[execOp,ho,h,h2,Instr.indexAt,asIntOf,Sem.run_bind,Sem.run_pure,run_underlying ht,Instr.sureAddr,Result.andThen_ok,h3,h4,and_self,if_true,run_sizeOf hm,ki]
 unfold cF at hv
 split at hv
 ·rename_i j0 r oo k q hb sK
  split at hv
  ·rename_i hq
   simp at hv;subst hv
   rw[hb]at hr;rw[sK]at DE
   obtain⟨B,h,hB,hk⟩:=iH hr
   refine⟨_,go _ _ k q h (du DE) hq.1 hq.2,?_⟩
   rw[Nat.add_assoc]
   exact .ptr _ _ _ _ hB hk
  ·simp at hv
 ·rename_i cs k q hb sK
  split at hv
  ·rename_i hq
   simp at hv;subst hv
   rw[hb]at hr;rw[sK]at DE
   obtain⟨b,oo,vs,h,h1,h2,h3,h4⟩:=k8 hr
   refine⟨_,go _ _ k q h (du DE) hq.1 hq.2,.eQ _ _ (.cR _ _ _ (fun j=>vs (q.toNat*(m+1)+j)) h1 (fun a ha=>h2 a (List.mem_of_mem_drop ha)) (fun j hj=>?_) (fun j a ha=>h4 _ _ (by simpa using ha)))⟩
   rw[Nat.add_assoc]
   exact h3 _ (by simp at hj;omega)
  ·simp at hv
 ·simp at hv
theorem PD {x i:Operand} {x' i':O} {t:TypeId} (E:ck P w D ι env a) (ho:o.op=.index t x i) (ht:P.underlying t=some .string) (hx:cO P x=some x') (hi:cO P i=some i')
  (hv:cH (cX env x') (cX env i')=some v):oj P a o w D ι v:=by
 have hr:=dj E hx
 have DE:=dj E hi
 unfold cH at hv
 split at hv
 ·rename_i s k q hb sK
  split at hv
  ·rename_i hq
   simp only[Option.map_eq_some_iff]at hv
   obtain⟨c,hc,rfl⟩:=hv
   rw[hb]at hr;rw[sK]at DE
   refine⟨_,?_,.eQ _ _ (.int _ _)⟩
   simp only[execOp,ho,fE hr,du DE,Instr.index,asIntOf,Sem.run_bind,Sem.run_pure,run_underlying ht,Result.andThen_ok,hq,if_true,hc]
  ·simp at hv
 ·simp at hv
theorem PA {x i:Operand} {x' i':O} {t e:TypeId} {ag:Bool} {len n:Nat} (E:ck P w D ι env a) (ho:o.op=.index t x i) (ht:P.underlying t=some (.array len e)) (uy:nP P e=some ag) (hn:er P e=some n) (hx:cO P x=some x') (hi:cO P i=some i')
  (hv:cG ag len n (cX env x') (cX env i')=some v):oj P a o w D ι v:=by
 have hr:=dj E hx
 have DE:=dj E hi
 unfold cG at hv
 split at hv
 ·rename_i cs k q hb sK
  split at hv
  ·rename_i hq
   rw[hb]at hr;rw[sK]at DE
   obtain⟨vs,f,h,n1,fl,f1,r1⟩:=iX hr
   have go:∀u,(Go.part e vs (q.toNat*n)).run P w=.ok u w->(execOp a.eval o).run P w=.ok (.value u) w:=fun u hu=>by
    simp only[execOp,ho,h,du DE,Instr.index,asIntOf,Sem.run_bind,Sem.run_pure,run_underlying ht,Result.andThen_ok,hq,and_self,if_true,run_sizeOf hn,hu]
   unfold part at hv
   cases ag with
   |true=>
    simp only[if_true]at hv
    split at hv
    ·rename_i hl
     simp at hv;subst hv
     simp only[List.length_drop]at hl
     by_cases HB:n=0
     ·subst HB
      refine⟨_,go _ (pG uy hn),.agg _ _ (fun _=>undef) (by simp) (fun a ha=>by simp at ha) (fun j hj=>by simp at hj) (fun j a ha=>by simp at ha)⟩
     refine⟨_,go _ (pG uy hn),.agg _ _ (fun j=>f (q.toNat*n+j)) (by simp[n1];omega) (fun a ha=>fl a (List.mem_of_mem_drop (List.mem_of_mem_take ha))) (fun j hj=>?_) (fun j a ha=>?_)⟩
     ·simp at hj
      rw[Array.getElem?_extract,if_pos (by omega)];exact f1 _ (by omega)
     ·rw[List.getElem?_take]at ha
      split at ha
      ·exact r1 _ _ (by simpa using ha)
      ·simp at ha
    ·simp at hv
   |false=>
    simp only[Bool.false_eq_true,if_false]at hv
    have nU:cs[q.toNat*n]? =some v:=by simpa[List.head?_drop]using hv
    have dJ:=(List.getElem?_eq_some_iff.1 nU).1
    exact⟨_,go _ (mJ uy (f1 _ dJ)),r1 _ _ nU⟩
  ·simp at hv
 ·simp at hv
theorem Ht {x:Operand} {x':O} {i:Nat} (E:ck P w D ι env a) (ho:o.op=.extract x i) (hx:cO P x=some x') (hv:aI i (cX env x')=some v):oj P a o w D ι v:=by
 have hr:=dj E hx
 unfold aI at hv
 split at hv
 ·rename_i vs hb
  rw[hb]at hr
  obtain⟨us,f,h,h1,h2,h3⟩:=uI hr
  have dJ:=(List.getElem?_eq_some_iff.1 hv).1
  exact⟨_,by simp only[execOp,ho,h,Instr.extract,h2 _ dJ];rfl,h3 _ _ hv⟩
 ·simp at hv
theorem Sa {x:Operand} {x':O} {t:TypeId} {e:TypeId} {n:Nat} (E:ck P w D ι env a) (ho:o.op=.call {callee:=.builtin .len,args:= #[x],argTypes:= #[t]}) (ht:P.underlying t=some (.slice e)) (hx:cO P x=some x') (hv:dU (cX env x')=some n):oj P a o w D ι (.int .i64 n):=by
 have hr:=dj E hx
 have go:∀A c,a.eval x=.slice A n c->(execOp a.eval o).run P w=.ok (.value (.int .i64 n)) w:=fun A c h=>by
  simp only[execOp,ho,resolve,Sem.run_bind,Sem.run_pure,Result.andThen_ok,invoke,builtin,Array.map,h]
  simp[Builtin.len_,run_underlying ht,goInt,h]
 refine⟨.int .i64 n,?_,.eQ _ _ (.int _ _)⟩
 unfold dU at hv
 split at hv<;>simp at hv<;>subst hv<;>rename_i hb<;>rw[hb]at hr
 ·exact go _ _ (kf hr)
 ·obtain⟨A,c,h,_⟩:=wK hr;exact go _ _ h
 ·obtain⟨oo,cap,B,h,_⟩:=iY hr;exact go _ _ h
theorem PF {x:Operand} {x':O} {t:TypeId} (E:ck P w D ι env a) (ho:o.op=.call {callee:=.builtin .len,args:= #[x],argTypes:= #[t]}) (ht:P.underlying t=some .string) (hx:cO P x=some x') (hv:cJ (cX env x')=some v):oj P a o w D ι v:=by
 have hr:=dj E hx
 unfold cJ at hv
 split at hv
 ·rename_i s hb
  simp at hv;subst hv
  rw[hb]at hr
  have h:=fE hr
  refine⟨_,?_,.eQ _ _ (.int _ _)⟩
  simp only[execOp,ho,resolve,Sem.run_bind,Sem.run_pure,Result.andThen_ok,invoke,builtin,Array.map,h]
  simp[Builtin.len_,run_underlying ht,goInt,h]
 ·simp at hv
theorem nq {isS:Bool} {len cap h l:Nat} {lo hi:Option Operand} {Nd mj:Option O} (E:ck P w D ι env a) (jZ:rh P lo=some Nd) (zC:rh P hi=some mj) (hh:dH len (mj.map (cX env))=some h) (hl:dI h (Nd.map (cX env))=some l) (hc:len<=cap):
  (Instr.sliceBounds isS len cap (lo.map a.eval) (hi.map a.eval) none).run P w=.ok (l,h,cap) w/\l<=h/\h<=len:=by
 have bound:∀(x:Operand) (y:O) (k:IntKind) (n:Int) (m:Nat) (c:BoundsCode),cO P x=some y->cX env y=.int k n->0<=n->n<=m->(Instr.sliceBound (a.eval x) m c).run P w=.ok n.toNat w:=fun x y k n m c hx hy h0 h1=>by
  have hr:=dj E hx
  rw[hy]at hr
  simp only[Instr.sliceBound,du hr,asIntOf,Sem.run_bind,Sem.run_pure,Result.andThen_ok,h0,h1,and_self,if_true]
 have H:h<=len/\((hi=none/\h=len)∨∃x,hi=some x/\∀c,(Instr.sliceBound (a.eval x) cap c).run P w=.ok h w):=by
  cases hi with
  |none=>
   simp[rh]at zC;subst zC
   simp[dH]at hh;subst hh
   exact⟨Nat.le_refl _,.inl ⟨rfl,rfl⟩⟩
  |some x=>
   simp only[rh,Option.map_eq_some_iff]at zC
   obtain⟨y,hy,rfl⟩:=zC
   simp only[Option.map_some,dH]at hh
   split at hh
   ·rename_i e;cases e
   ·rename_i k n e
    injection e with e
    split at hh
    ·rename_i hn
     simp at hh;subst hh
     exact⟨by omega,.inr ⟨x,rfl,fun c=>bound x y k n _ _ hy e hn.1 (by omega)⟩⟩
    ·simp at hh
   ·simp at hh
 have L:l<=h/\((lo=none/\l=0)∨∃x,lo=some x/\∀c,(Instr.sliceBound (a.eval x) h c).run P w=.ok l w):=by
  cases lo with
  |none=>
   simp[rh]at jZ;subst jZ
   simp[dI]at hl;subst hl
   exact⟨Nat.zero_le _,.inl ⟨rfl,rfl⟩⟩
  |some x=>
   simp only[rh,Option.map_eq_some_iff]at jZ
   obtain⟨y,hy,rfl⟩:=jZ
   simp only[Option.map_some,dI]at hl
   split at hl
   ·rename_i e;cases e
   ·rename_i k n e
    injection e with e
    split at hl
    ·rename_i hn
     simp at hl;subst hl
     exact⟨by omega,.inr ⟨x,rfl,fun c=>bound x y k n h _ hy e hn.1 hn.2⟩⟩
    ·simp at hl
   ·simp at hl
 refine⟨?_,L.1,H.1⟩
 unfold Instr.sliceBounds
 rcases H.2 with⟨rfl,rfl⟩|⟨x,rfl,hx⟩<;>rcases L.2 with⟨rfl,rfl⟩|⟨y,rfl,hy⟩<;>
  simp only[Option.map_none,Option.map_some,Sem.run_bind,Sem.run_pure,Result.andThen_ok, *]
theorem MB {x:Operand} {x':O} {lo hi:Option Operand} {Nd mj:Option O} {t e:TypeId} {m:Nat} (S:gw P hs D ι g w) (E:ck P w D ι env a) (ho:o.op=.slice t x lo hi none) (ht:P.underlying t=some (.slice e)) (hm:er P e=some m) (hx:cO P x=some x') (jZ:rh P lo=some Nd) (zC:rh P hi=some mj)
  (hv:bD g m (cX env x') (Nd.map (cX env)) (mj.map (cX env))=some v):oj P a o w D ι v:=by
 have hr:=dj E hx
 have go:∀A len cap l h,a.eval x=.slice A len cap->(Instr.sliceBounds true len cap (lo.map a.eval) (hi.map a.eval) none).run P w=.ok (l,h,cap) w->(execOp a.eval o).run P w=.ok (.value (.slice (if cap=l then A else A.map (·.add (l*m))) (h-l) (cap-l))) w:=fun A len cap l h h1 h2=>by
  simp only[execOp,ho,h1,Instr.sliceAt,Instr.slice,Sem.run_bind,Sem.run_pure,run_underlying ht,Result.andThen_ok,Option.map_none,h2,run_sizeOf hm]
 unfold bD at hv
 split at hv
 ·rename_i hb
  rw[hb]at hr
  simp only[Option.bind_eq_some_iff,Option.map_eq_some_iff]at hv
  obtain⟨h,hh,l,hl,rfl⟩:=hv
  obtain⟨q,q1,q2⟩:=nq (w:=w) (isS:=true) (cap:=0) E jZ zC hh hl (Nat.le_refl _)
  have h0:h=0:=by omega
  have l0:l=0:=by omega
  subst h0;subst l0
  refine⟨_,go _ _ _ _ _ (kf hr) q,?_⟩
  simp;exact .eQ _ _ .cm
 ·rename_i rows hb
  rw[hb]at hr
  simp only[Option.bind_eq_some_iff,Option.map_eq_some_iff]at hv
  obtain⟨h,hh,l,hl,hv⟩:=hv
  split at hv
  ·rename_i dG
   simp at hv;subst hv
   obtain⟨A,c,he,c1,c2,h3⟩:=wK hr
   obtain⟨q,q1,q2⟩:=nq (w:=w) (isS:=true) (cap:=c) E jZ zC hh hl c1
   refine⟨_,go _ _ _ _ _ he q,.eQ _ _ ?_⟩
   have hlen:((rows.drop l).take (h-l)).length=h-l:=by simp;omega
   by_cases hz:h-l=0
   ·have:(rows.drop l).take (h-l)=[]:=by rw[hz];simp
    rw[this,hz]
    exact .AL _ _ (by omega)
   ·rcases h3 with h3|⟨b,oo,sz,vs,rfl,hD,KM,fl,hc,hi⟩
    ·subst h3;simp at q2;omega
    rw[if_neg (by omega)]
    simp only[Option.map_some,ki]
    have BA:sz=m:=by
     have dJ:l<rows.length:=by omega
     have:=dG rows[l] (List.getElem_mem dJ)
     rw[<-this,KM _ (List.getElem_mem dJ)]
    subst BA
    refine .sl _ b _ _ _ sz (fun i j=>vs (l+i) j) hlen (by omega) (by omega) hD (fun cs dq=>KM cs (List.mem_of_mem_drop (List.mem_of_mem_take dq))) (fun cs dq=>fl cs (List.mem_of_mem_drop (List.mem_of_mem_take dq))) (fun i j hi hj=>?_) (fun i j cs a dq ha=>?_)
    ·rw[<-hc (l+i) j (by omega) hj,Nat.add_mul]
     congr 2;omega
    ·rw[List.getElem?_take]at dq
     split at dq
     ·exact hi _ _ _ _ (by simpa using dq) ha
     ·simp at dq
  ·simp at hv
 ·rename_i j0 off len hb
  rw[hb]at hr
  simp only[Option.bind_eq_some_iff,Option.map_eq_some_iff]at hv
  obtain⟨r,CE,h,hh,l,hl,hv⟩:=hv
  split at hv
  ·rename_i ym
   simp at hv;subst hv
   obtain⟨oo,cap,B,he,hB,h1,h2,h3,h4,hk⟩:=iY hr
   obtain⟨B',dF,R,_,_⟩:=S.row _ _ CE
   rw[hB]at dF;injection dF with dF;subst dF
   replace R:=R.row hk
   have ft:B.sz=m:=R.sz.trans ym
   obtain⟨q,q1,q2⟩:=nq (w:=w) (isS:=true) (cap:=cap) E jZ zC hh hl h1
   refine⟨_,go _ _ _ _ _ he q,?_⟩
   have e1:(off+l+(cap-l))*B.sz<=B.C:=by rw[show off+l+(cap-l)=off+cap by omega];exact h3
   by_cases ly:cap=l
   ·rw[if_pos ly]
    exact .own _ _ _ _ _ B hB hk (by omega) (.inl (by omega)) e1 (by omega)
   ·rw[if_neg ly]
    simp only[Option.map_some,ki]
    have Cz:oo=off*B.sz:=by rcases h2 with h2|h2<;>omega
    exact .own _ _ _ _ _ B hB hk (by omega) (.inr (by rw[Cz,ft,Nat.add_mul])) e1 (by omega)
  ·simp at hv
 ·simp at hv
theorem Ky {x:Operand} {x':O} {lo hi:Option Operand} {Nd mj:Option O} {t:TypeId} (E:ck P w D ι env a) (ho:o.op=.slice t x lo hi none) (ht:P.underlying t=some .string) (hx:cO P x=some x') (jZ:rh P lo=some Nd) (zC:rh P hi=some mj)
  (hv:aW (cX env x') (Nd.map (cX env)) (mj.map (cX env))=some v):oj P a o w D ι v:=by
 have hr:=dj E hx
 unfold aW at hv
 split at hv
 ·rename_i s hb
  rw[hb]at hr
  simp only[Option.bind_eq_some_iff,Option.map_eq_some_iff]at hv
  obtain⟨h,hh,l,hl,rfl⟩:=hv
  obtain⟨q,_,_⟩:=nq (w:=w) (isS:=false) E jZ zC hh hl (Nat.le_refl _)
  refine⟨_,?_,.eQ _ _ (.str _)⟩
  simp only[execOp,ho,fE hr,Instr.sliceAt,Instr.slice,Sem.run_bind,Sem.run_pure,run_underlying ht,Result.andThen_ok,Option.map_none,Option.isSome_none,Bool.false_eq_true,if_false,q]
 ·simp at hv
theorem Eb {xs:List Operand} {ys:List O} (E:ck P w D ι env a) (h:xs.mapM (cO P)=some ys):(xs.map a.eval).length=ys.length/\∀j y,ys[j]? =some y->cW P w D ι (cX env y) ((xs.map a.eval).getD j undef):=by
 induction xs generalizing ys with
 |nil=>simp at h;subst h;simp
 |cons x r ih=>
  simp only[List.mapM_cons,Option.bind_eq_bind,Option.bind_eq_some_iff]at h
  obtain⟨c,hc,pS,dq,h⟩:=h
  simp at h;subst h
  obtain⟨h1,h2⟩:=ih dq
  refine⟨by simpa using h1,fun j d hd=>?_⟩
  cases j with
  |zero=>simp at hd ⊢;subst hd;exact dj E hc
  |succ j=>simp at hd ⊢;simpa using h2 j d hd
theorem PI {f:Nat} {first da:Array Operand} {Bc:List O} (E:ck P w D ι env a) (ho:o.op=.makeFunc (.func f) first da) (hf:first= #[]) (hc:fP P f=true) (hx:da.toList.mapM (cO P)=some Bc):oj P a o w D ι (.fn f (Bc.map (cX env))):=by
 subst hf
 obtain⟨h1,h2⟩:=Eb E hx
 refine⟨.func (.func f) #[] (da.map a.eval),by simp only[execOp,ho,Instr.makeFunc,Sem.run_bind,Sem.run_pure,Result.andThen_ok];simp,.fn _ _ _ (fun j=>(da.toList.map a.eval).getD j undef) hc (by simpa using h1) (fun j hj=>?_) (fun j x Qe=>?_)⟩
 ·simp at hj h1
  have:j<da.size:=by omega
  simp[this]
 ·simp only[List.getElem?_map,Option.map_eq_some_iff]at Qe
  obtain⟨y,hy,rfl⟩:=Qe
  exact h2 j y hy
theorem PJ {f:Nat} {first da:Array Operand} {Bc:List O} (E:ck P w D ι env a) (ho:o.op=.makeFunc (.func f) first da) (hf:da= #[]) (hc:fP P f=true) (hx:first.toList.mapM (cO P)=some Bc):oj P a o w D ι (.tN f (Bc.map (cX env))):=by
 subst hf
 obtain⟨h1,h2⟩:=Eb E hx
 refine⟨.func (.func f) (first.map a.eval) #[],by simp only[execOp,ho,Instr.makeFunc,Sem.run_bind,Sem.run_pure,Result.andThen_ok];simp,.tN _ _ _ (fun j=>(first.toList.map a.eval).getD j undef) hc (by simpa using h1) (fun j hj=>?_) (fun j x Qe=>?_)⟩
 ·simp at hj h1
  have:j<first.size:=by omega
  simp[this]
 ·simp only[List.getElem?_map,Option.map_eq_some_iff]at Qe
  obtain⟨y,hy,rfl⟩:=Qe
  exact h2 j y hy
end
end Go.Proofs.YtgoljkjaameagaaGreat.V

namespace Go.Proofs.YtgoljkjaameagaaGreat.V
open Go.RowKit
variable {P:Program} {w w':World} {D D':Nat->Prop} {ι ι':Names}
def Mk (P:Program) (a:Act) (o:Oper) (w:World) (D:Nat->Prop) (ι:Names) (id:Id) (v:AV) (r:Row):Prop:=
 ∃u cells T,(execOp a.eval o).run P w=.ok (.value u) (w.alloc (.cells cells T))/\r.w=true/\r.rows.length*r.sz<=cells.size/\(∀cs∈r.rows,cs.length=r.sz)/\(∀cs∈r.rows,∀a∈cs,a.cell=true)/\
  (∀i j cs a,r.rows[i]? =some cs->cs[j]? =some a->∃x,cells[i*r.sz+j]? =some x/\cW P w D ι a x)/\∀ι':Names,ι' id=some ⟨w.heap.size,r.sz,cells.size,none⟩->cW P w D ι' v u
section
variable {g:Rows} {hs:Nat} {env:Env} {a:Act} {o:Oper} {id:Id} {v:AV}
theorem kL {vs:List Value} {cs:List K} (h:vs.mapM Gx=some cs):fA P w D ι (cs.map K.av) vs.toArray:=by
 obtain⟨h1,h2⟩:=rQ h
 refine⟨by simp[h1],fun j a ha=>?_⟩
 simp only[List.getElem?_map,Option.map_eq_some_iff]at ha
 obtain⟨c,hc,rfl⟩:=ha
 exact⟨c.val,by simpa using h2 j c hc,wI c⟩
theorem jY {t:TypeId} {z:List K} (h:jK P t=some z):∃i v,P.info? t=some i/\i.zero=some v/\v.cells.size=i.size/\v.cells.toList.mapM Gx=some z/\z.length=i.size:=by
 unfold jK at h
 split at h
 ·rename_i i hi
  split at h
  ·rename_i v hv
   split at h
   ·rename_i hs
    exact⟨i,v,hi,hv,hs,h,by rw[(rQ h).1];simpa using hs⟩
   ·simp at h
  ·simp at h
 ·simp at h
theorem Fu {cs:List AV} {cells:Array Value} (h:fA P w D ι cs cells):∀i j c a,[cs][i]? =some c->c[j]? =some a->∃x,cells[i*cs.length+j]? =some x/\cW P w D ι a x:=by
 intro i j c a hi hj
 cases i with
 |zero=>simp at hi;subst hi;simpa using h.2 j a hj
 |succ i=>simp at hi
theorem RI {t:TypeId} {z:List K} (ho:o.op=.alloc t) (hz:jK P t=some z):Mk P a o w D ι id (.ptr id 0 0) ⟨true,z.length,[z.map K.av]⟩:=by
 obtain⟨i,v,hi,hv,hs,hm,hl⟩:=jY hz
 have hk:=kL (P:=P) (w:=w) (D:=D) (ι:=ι) hm
 refine⟨.pointer (some ⟨w.heap.size,0,none⟩),v.cells,t,?_,rfl,?_,?_,?_,?_,?_⟩
 ·simp only[execOp,ho,Instr.alloc,zeroValue,typeInfo,Sem.run_bind]
  simp[hi,hv,newVar,newRow]
 ·simp[hl,hs]
 ·intro cs dq;simp at dq;subst dq;simp
 ·intro cs dq x hx;simp at dq;subst dq
  obtain⟨c,_,rfl⟩:=List.mem_map.1 hx;exact c.nf
 ·have:=Fu hk;simpa using this
 ·intro ι' hι
  have:=cW.ptr (P:=P) (w:=w) (D:=D) (ι:=ι') id 0 0 _ hι rfl
  simpa using this
theorem qM {x:AV} {u:Value} (h:cW P w D ι x u) (hc:x.cells.all AV.cell=true):fA P w D ι x.cells u.cells:=by
 obtain⟨h1,f,h2,h3⟩:=h.cells hc
 exact⟨h1,fun j a ha=>⟨f j,h2 j (List.getElem?_eq_some_iff.1 ha).1,h3 j a ha⟩⟩
theorem RG {t:TypeId} {x:Operand} {x':O} {cs:List AV} (E:ck P w D ι env a) (ho:o.op=.box t x) (hx:cO P x=some x') (hb:cD (cX env x')=some cs):Mk P a o w D ι id (.ptr id 0 0) ⟨true,cs.length,[cs]⟩:=by
 have hr:=dj E hx
 unfold cD at hb
 split at hb
 ·rename_i dG
  simp at hb;subst hb
  have hk:=qM hr dG
  refine⟨.pointer (some ⟨w.heap.size,0,none⟩),(a.eval x).cells,t,?_,rfl,?_,?_,?_,?_,?_⟩
  ·simp only[execOp,ho,Instr.box,Sem.run_bind]
   simp[newVar,newRow]
  ·simp[hk.1]
  ·intro cs dq;simp at dq;subst dq;rfl
  ·intro cs dq y hy;simp at dq;subst dq
   exact List.all_eq_true.1 dG y hy
  ·exact Fu hk
  ·intro ι' hι
   have:=cW.ptr (P:=P) (w:=w) (D:=D) (ι:=ι') id 0 0 _ hι rfl
   simpa using this
 ·simp at hb
theorem foldl_set:∀(vs:List Value) (n off:Nat) (cells:Array Value),off+n+vs.length<=cells.size->((vs.zipIdx n).foldl (fun cs (x:Value×Nat)=>cs.setIfInBounds (off+x.2) x.1) cells).size=cells.size/\
  ∀k,((vs.zipIdx n).foldl (fun cs (x:Value×Nat)=>cs.setIfInBounds (off+x.2) x.1) cells)[k]? =if off+n<=k/\k<off+n+vs.length then vs[k-(off+n)]? else cells[k]?
 |[],n,off,cells,_=>⟨rfl,fun k=>by simp;intro h1 h2;omega⟩
 |v::r,n,off,cells,h=>by
  simp only[List.length_cons]at h
  obtain⟨h1,h2⟩:=foldl_set r (n+1) off (cells.setIfInBounds (off+n) v) (by simp;omega)
  simp only[List.zipIdx_cons,List.foldl_cons]
  refine⟨by rw[h1];simp,fun k=>?_⟩
  rw[h2 k]
  simp only[List.length_cons]
  by_cases hk:k=off+n
  ·subst hk
   rw[if_neg (by omega),if_pos (by omega)]
   simp[show off+n<cells.size by omega]
  ·by_cases mC:off+n<=k/\k<off+n+(r.length+1)
   ·rw[if_pos (by omega),if_pos mC]
    have:k-(off+n)=(k-(off+(n+1)))+1:=by omega
    rw[this,List.getElem?_cons_succ]
   ·rw[if_neg (by omega),if_neg mC,Array.getElem?_setIfInBounds_ne (by omega)]
theorem vG (place:Nat->Option (Nat×Nat)):∀(ps:List (Nat×Value)) (qs:List (Nat×Nat×AV)) (cells:Array Value) (cs res:List AV),fA P w D ι cs cells->(∀a∈cs,a.cell=true)->ps.length=qs.length->
  (∀(k:Nat) i u o' n x,ps[k]? =some (i,u)->qs[k]? =some (o',n,x)->place i=some (o',n)/\cW P w D ι x u)->cq cs qs=some res->∃js,Instr.fill place cells ps=some js/\fA P w D ι res js/\(∀a∈res,a.cell=true)/\res.length=cs.length:=by
 intro ps
 induction ps with
 |nil=>
  intro qs cells cs res hR hf hl _ hv
  cases qs with
  |nil=>simp[cq]at hv;subst hv;exact⟨cells,rfl,hR,hf,rfl⟩
  |cons q r=>simp at hl
 |cons p ps ih=>
  intro qs cells cs res hR hf hl hp hv
  cases qs with
  |nil=>simp at hl
  |cons q qs=>
   obtain⟨i,u⟩:=p
   obtain⟨oo,n,x⟩:=q
   obtain⟨ml,hr⟩:=hp 0 i u oo n x rfl rfl
   unfold cq at hv
   split at hv
   ·rename_i hc
    obtain⟨c1,c2,c3⟩:=hc
    have hk:=qM hr c3
    have S5:u.cells.size=n:=by rw[hk.1,c1]
    have dq:cells.size=cs.length:=hR.1
    unfold Instr.fill
    simp only[ml]
    rw[if_neg (by rw[S5,dq];simp;omega)]
    obtain⟨s1,s2⟩:=foldl_set u.cells.toList 0 oo cells (by simp;omega)
    have e0:(u.cells.zipIdx.foldl (fun cs (x:Value×Nat)=>cs.setIfInBounds (oo+x.2) x.1) cells)=(u.cells.toList.zipIdx 0).foldl (fun cs (x:Value×Nat)=>cs.setIfInBounds (oo+x.2) x.1) cells:=by
     rw[<-Array.foldl_toList];simp
    have rG:=ih qs (u.cells.zipIdx.foldl (fun cs (x:Value×Nat)=>cs.setIfInBounds (oo+x.2) x.1) cells) (cs.take oo++x.cells++cs.drop (oo+n)) res ?_ ?_ (by simpa using hl) (fun k i u o' n x h1 h2=>hp (k+1) i u o' n x (by simpa using h1) (by simpa using h2)) hv
    ·obtain⟨js,h1,h2,h3,h4⟩:=rG
     refine⟨js,h1,h2,h3,?_⟩
     rw[h4];simp;omega
    ·rw[e0]
     refine⟨by rw[s1,dq];simp;omega,fun j a ha=>?_⟩
     rw[s2 j]
     simp only[Nat.add_zero,Array.length_toList]
     by_cases hj:oo<=j/\j<oo+u.cells.size
     ·rw[if_pos hj]
      rw[List.append_assoc,List.getElem?_append_right (by simp;omega),List.getElem?_append_left (by simp;omega)]at ha
      simp only[List.length_take]at ha
      rw[show min oo cs.length=oo by omega]at ha
      simpa using hk.2 _ _ ha
     ·rw[if_neg hj]
      by_cases hj2:j<oo
      ·rw[List.append_assoc,List.getElem?_append_left (by simp;omega),List.getElem?_take,if_pos hj2]at ha
       exact hR.2 _ _ ha
      ·rw[List.getElem?_append_right (by simp;omega)]at ha
       simp only[List.length_append,List.length_take,List.getElem?_drop]at ha
       rw[show oo+n+(j-(min oo cs.length+x.cells.length))=j by omega]at ha
       exact hR.2 _ _ ha
    ·intro b hb
     rcases List.mem_append.1 hb with hb|hb
     ·rcases List.mem_append.1 hb with hb|hb
      ·exact hf b (List.mem_of_mem_take hb)
      ·exact List.all_eq_true.1 c3 b hb
     ·exact hf b (List.mem_of_mem_drop hb)
   ·simp at hv
theorem xu {fs:List Field} (h:∀f∈fs,(P.info? f.type).isSome=true):∃z6,fs.mapM (fun f=>(P.info? f.type).map fun i=>(f.offset,i.size))=some z6/\∀(i:Nat) (f:Field) (n:Nat),fs[i]? =some f->er P f.type=some n->z6[i]? =some (f.offset,n):=by
 induction fs with
 |nil=>exact⟨[],rfl,fun i f n h=>by simp at h⟩
 |cons f r ih=>
  obtain⟨q,h1,h2⟩:=ih (fun x hx=>h x (List.mem_cons_of_mem _ hx))
  obtain⟨i,hi⟩:=Option.isSome_iff_exists.1 (h f (by simp))
  refine⟨(f.offset,i.size)::q,by simp[hi,h1],fun k x n hk hn=>?_⟩
  cases k with
  |zero=>simp at hk;subst hk;simp[er,hi]at hn;subst hn;rfl
  |succ k=>simp at hk ⊢;exact h2 k x n hk hn
theorem qj {ps:List (Nat×Operand)} {l:List (Nat×O)} (E:ck P w D ι env a) (h:ps.mapM (fun(x:Nat×Operand)=>(cO P x.2).map (x.1,·))=some l):l.length=ps.length/\∀(k i:Nat) (y:O),l[k]? =some (i,y)->∃x,ps[k]? =some (i,x)/\cO P x=some y:=by
 induction ps generalizing l with
 |nil=>simp at h;subst h;simp
 |cons p r ih=>
  simp only[List.mapM_cons,Option.bind_eq_bind,Option.bind_eq_some_iff]at h
  obtain⟨c,hc,pS,dq,h⟩:=h
  simp at h;subst h
  obtain⟨h1,h2⟩:=ih dq
  simp only[Option.map_eq_some_iff]at hc
  obtain⟨y,hy,rfl⟩:=hc
  refine⟨by simp[h1],fun k i z hk=>?_⟩
  cases k with
  |zero=>simp at hk;obtain⟨rfl,rfl⟩:=hk;exact⟨p.2,rfl,hy⟩
  |succ k=>simp at hk ⊢;exact h2 k i z hk
theorem C5 {fs:Array Field} {l:List (Nat×O)} {q:List (Nat×Nat×O)} (h:su P fs l=some q):q.length=l.length/\∀(k oo n:Nat) (y:O),q[k]? =some (oo,n,y)->∃(i:Nat) (f:Field),l[k]? =some (i,y)/\fs[i]? =some f/\f.offset=oo/\er P f.type=some n:=by
 induction l generalizing q with
 |nil=>simp[su]at h;subst h;simp
 |cons p r ih=>
  obtain⟨i,x⟩:=p
  unfold su at h
  split at h
  ·rename_i f hf
   split at h
   ·rename_i n hn
    simp only[Option.map_eq_some_iff]at h
    obtain⟨q',Lz,rfl⟩:=h
    obtain⟨h1,h2⟩:=ih Lz
    refine⟨by simp[h1],fun k oo m y hk=>?_⟩
    cases k with
    |zero=>simp at hk;obtain⟨rfl,rfl,rfl⟩:=hk;exact⟨i,f,rfl,hf,rfl,hn⟩
    |succ k=>simp only[List.getElem?_cons_succ]at hk ⊢;exact h2 k oo m y hk
   ·simp at h
  ·simp at h
theorem fA.agg {xs:List AV} {vs:Array Value} (h:fA P w D ι xs vs) (hf:∀a∈xs,a.cell=true):cW P w D ι (.agg xs) (.agg vs):=
 .agg xs vs (fun j=>vs.getD j undef) h.1 hf (fun j hj=>by
  have:j<vs.size:=by rw[h.1];exact hj
  simp[this]) (fun j a ha=>by
  obtain⟨u,h1,h2⟩:=h.2 j a ha
  simpa[Array.getD_eq_getD_getElem?,h1]using h2)
theorem Mx {t:TypeId} {ps:Array (Nat×Operand)} {fs:Array Field} {z:List K} {l:List (Nat×O)} {q:List (Nat×Nat×O)} {cs:List AV} (E:ck P w D ι env a) (ho:o.op=.build t ps) (ht:P.underlying t=some (.struct fs)) (hz:jK P t=some z) (hl:sD P ps=some l)
  (rF:∀f∈fs.toList,(P.info? f.type).isSome=true) (hq:su P fs l=some q) (hv:cq (z.map K.av) (q.map fun(o,n,x)=>(o,n,cX env x))=some cs):oj P a o w D ι (.agg cs):=by
 obtain⟨it,zv,hi,v7,hs,hm,Fk⟩:=jY hz
 obtain⟨z6,ml,UJ⟩:=xu rF
 have hk:=kL (P:=P) (w:=w) (D:=D) (ι:=ι) hm
 obtain⟨n1,r1⟩:=qj E hl
 obtain⟨n2,r2⟩:=C5 hq
 obtain⟨js,h1,h2,h3,_⟩:=vG (P:=P) (w:=w) (D:=D) (ι:=ι) (z6.toArray[·]?) (ps.toList.map fun(i,x)=>(i,a.eval x)) (q.map fun(o,n,x)=>(o,n,cX env x)) zv.cells _ cs (by simpa using hk)
  (fun b hb=>by obtain⟨c,_,rfl⟩:=List.mem_map.1 hb;exact c.nf) (by simp[n2,n1]) (fun k i u o' n x sk mC=>by
   simp only[List.getElem?_map,Option.map_eq_some_iff]at sk mC
   obtain⟨⟨i',x'⟩,hp,e1⟩:=sk
   obtain⟨⟨o2,n',y⟩,Lz,e2⟩:=mC
   simp only[Prod.mk.injEq]at e1 e2
   obtain⟨rfl,rfl⟩:=e1
   obtain⟨rfl,rfl,rfl⟩:=e2
   obtain⟨i2,f,AJ,hf,rfl,hn⟩:=r2 _ _ _ _ Lz
   obtain⟨x2,yn,hc⟩:=r1 _ _ _ AJ
   rw[hp]at yn
   simp only[Option.some.injEq,Prod.mk.injEq]at yn
   obtain⟨rfl,rfl⟩:=yn
   exact⟨by simpa using UJ _ _ _ (by simpa using hf) hn,dj E hc⟩) hv
 refine⟨.agg js,?_,h2.agg h3⟩
 have hb:P.built t ((ps.map fun(i,x)=>(i,a.eval x)).toList)=some js:=by
  unfold Program.built
  simp only[hi,ht,v7,ml]
  simpa using h1
 simp only[execOp,ho,Sem.run_bind,run_build w t _ _ hb,Result.andThen_ok,Sem.run_pure]
theorem Kx {t e:TypeId} {len n:Nat} {ps:Array (Nat×Operand)} {z:List K} {l:List (Nat×O)} {cs:List AV} (E:ck P w D ι env a) (ho:o.op=.build t ps) (ht:P.underlying t=some (.array len e)) (hz:jK P t=some z) (hl:sD P ps=some l) (hn:er P e=some n)
  (hv:cq (z.map K.av) ((l.map fun(x:Nat×O)=>(x.1*n,n,x.2)).map fun(o,n,x)=>(o,n,cX env x))=some cs):oj P a o w D ι (.agg cs):=by
 obtain⟨it,zv,hi,v7,hs,hm,Fk⟩:=jY hz
 have hk:=kL (P:=P) (w:=w) (D:=D) (ι:=ι) hm
 obtain⟨n1,r1⟩:=qj E hl
 obtain⟨ie,CG,ft⟩:∃ie,P.info? e=some ie/\ie.size=n:=by simpa[er]using hn
 obtain⟨js,h1,h2,h3,_⟩:=vG (P:=P) (w:=w) (D:=D) (ι:=ι) (fun i=>some (i*ie.size,ie.size)) (ps.toList.map fun(i,x)=>(i,a.eval x)) ((l.map fun(x:Nat×O)=>(x.1*n,n,x.2)).map fun(o,n,x)=>(o,n,cX env x)) zv.cells _ cs (by simpa using hk)
  (fun b hb=>by obtain⟨c,_,rfl⟩:=List.mem_map.1 hb;exact c.nf) (by simp[n1]) (fun k i u o' n' x sk mC=>by
   simp only[List.getElem?_map,Option.map_eq_some_iff]at sk mC
   obtain⟨⟨i',x'⟩,hp,e1⟩:=sk
   obtain⟨⟨o2,n2,y⟩,⟨⟨i2,y2⟩,AJ,e3⟩,e2⟩:=mC
   simp only[Prod.mk.injEq]at e1 e2 e3
   obtain⟨rfl,rfl⟩:=e1
   obtain⟨rfl,rfl,rfl⟩:=e2
   obtain⟨rfl,rfl,rfl⟩:=e3
   obtain⟨x2,yn,hc⟩:=r1 _ _ _ AJ
   rw[hp]at yn
   simp only[Option.some.injEq,Prod.mk.injEq]at yn
   obtain⟨rfl,rfl⟩:=yn
   exact⟨by rw[ft],dj E hc⟩) hv
 refine⟨.agg js,?_,h2.agg h3⟩
 have hb:P.built t ((ps.map fun(i,x)=>(i,a.eval x)).toList)=some js:=by
  unfold Program.built
  simp only[hi,ht,v7,CG]
  simpa using h1
 simp only[execOp,ho,Sem.run_bind,run_build w t _ _ hb,Result.andThen_ok,Sem.run_pure]
theorem vD:∀(vs:List AV) (sz i:Nat) (rs:List (List AV)) (cs:List AV),0<sz->cs.length=(i+vs.length)*sz->rowsOf sz vs=some rs->
  cq cs ((vs.zipIdx i).map fun(v,j)=>(j*sz,sz,v))=some (cs.take (i*sz)++rs.flatten)/\rs.length=vs.length/\(∀c∈rs,c.length=sz)/\∀c∈rs,∀x∈c,x.cell=true
 |[],sz,i,rs,cs,_,hl,h=>by
  simp[rowsOf]at h;subst h
  simp at hl
  simp[cq,List.take_of_length_le (show cs.length<=i*sz by omega)]
 |v::r,sz,i,rs,cs,ft,hl,h=>by
  simp only[rowsOf,Option.bind_eq_some_iff,Option.map_eq_some_iff]at h
  obtain⟨c,hc,rs',ym,rfl⟩:=h
  unfold rowOf at hc
  split at hc
  ·rename_i Bv
   simp at hc;subst hc
   obtain⟨qa,Gf⟩:=Bv
   simp only[List.length_cons]at hl
   have hmul:(i+(r.length+1))*sz=i*sz+sz+r.length*sz:=by rw[Nat.add_mul,Nat.add_mul];omega
   have ih:=vD r sz (i+1) rs' (cs.take (i*sz)++v.cells++cs.drop (i*sz+sz)) ft (by
    simp[qa];rw[Nat.add_mul,Nat.add_mul];omega) ym
   refine⟨?_,by simp[ih.2.1],?_,?_⟩
   ·simp only[List.zipIdx_cons,List.map_cons,cq]
    rw[if_pos ⟨qa,by omega,Gf⟩,ih.1]
    congr 1
    rw[List.flatten_cons,<-List.append_assoc]
    congr 1
    rw[Nat.add_mul,Nat.one_mul,List.take_append_of_le_length (by simp[qa];omega)]
    rw[List.take_of_length_le (by simp[qa];omega)]
   ·intro c' kS;rcases List.mem_cons.1 kS with rfl|kS
    ·exact qa
    ·exact ih.2.2.1 c' kS
   ·intro c' kS;rcases List.mem_cons.1 kS with rfl|kS
    ·exact List.all_eq_true.1 Gf
    ·exact ih.2.2.2 c' kS
  ·simp at hc
theorem flat_get {α:Type} {ow:List (List α)} {sz:Nat} (h:∀cs∈ow,cs.length=sz) {i j:Nat} {cs:List α} {a:α} (hi:ow[i]? =some cs) (hj:cs[j]? =some a):ow.flatten[i*sz+j]? =some a:=by
 induction ow generalizing i with
 |nil=>simp at hi
 |cons c r ih=>
  have hc:c.length=sz:=h c (by simp)
  cases i with
  |zero=>
   simp at hi;subst hi
   have dJ:=(List.getElem?_eq_some_iff.1 hj).1
   rw[List.flatten_cons,List.getElem?_append_left (by omega)];simpa using hj
  |succ i=>
   rw[List.flatten_cons,List.getElem?_append_right (by rw[hc,Nat.succ_mul];omega)]
   have:(i+1)*sz+j-c.length=i*sz+j:=by rw[hc,Nat.succ_mul];omega
   rw[this]
   exact ih (fun cs dq=>h cs (List.mem_cons_of_mem _ dq)) (by simpa using hi)
theorem Iv {α:Type} {ow:List (List α)} {sz:Nat} (h:∀cs∈ow,cs.length=sz):ow.flatten.length=ow.length*sz:=by
 induction ow with
 |nil=>simp
 |cons c r ih=>
  rw[List.flatten_cons,List.length_append,h c (by simp),ih (fun cs dq=>h cs (List.mem_cons_of_mem _ dq)),List.length_cons,Nat.succ_mul];omega
theorem pf {zv:Value} {z:List K} {n:Nat} (hm:zv.cells.toList.mapM Gx=some z) (kn:0<z.length):∀k,k<n->∃c,z[k % z.length]? =some c/\((Array.range n).map (zv.cells[· % zv.cells.size]!))[k]? =some c.val:=by
 intro k hk
 obtain⟨h1,h2⟩:=rQ hm
 have ft:zv.cells.size=z.length:=by simpa using h1.symm
 have dJ:k % z.length<z.length:=Nat.mod_lt _ kn
 refine⟨z[k % z.length],List.getElem?_eq_getElem dJ,?_⟩
 have h3:=h2 _ _ (List.getElem?_eq_getElem dJ)
 simp only[Array.getElem?_toList]at h3
 have Bz:k % z.length<zv.cells.size:=by rw[ft];exact dJ
 rw[Array.getElem?_map,Array.getElem?_range,if_pos hk]
 simp only[Option.map_some]
 rw[ft,getElem!_pos zv.cells (k % z.length) Bz]
 rw[Array.getElem?_eq_getElem Bz]at h3
 exact h3
theorem Jt {t e:TypeId} {len sz:Nat} {ps:Array (Nat×Operand)} {z:List K} {l:List (Nat×O)} {rs:List (List AV)} (E:ck P w D ι env a) (ho:o.op=.buildSlice t len ps) (ht:P.underlying t=some (.slice e)) (ft:er P e=some (sz+1)) (hz:jK P e=some z)
  (hl:sD P ps=some l) (HC:len*(sz+1)<=4096) (Rn:l.map (·.1)=List.range len) (hv:rowsOf (sz+1) (l.map fun x=>cX env x.2)=some rs):Mk P a o w D ι id (.own id 0 len) ⟨true,sz+1,rs⟩:=by
 obtain⟨it,zv,hi,v7,hs,hm,Fk⟩:=jY hz
 have jG:it.size=sz+1:=by simpa[er,hi]using ft
 obtain⟨n1,r1⟩:=qj E hl
 have yj:l.length=len:=by have:=congrArg List.length Rn;simpa using this
 by_cases h0:len=0
 ·subst h0
  have MZ:l=[]:=List.length_eq_zero_iff.1 yj
  subst MZ
  simp[rowsOf]at hv;subst hv
  have SU:ps= #[]:=by
   apply Array.ext';apply List.eq_nil_of_length_eq_zero;rw[<-n1];rfl
  subst SU
  refine⟨.slice (some ⟨w.heap.size,0,none⟩) 0 0, #[],e,?_,rfl,by simp,by simp,by simp,fun i j cs x hi=>by simp at hi,fun ι' hι=>?_⟩
  ·simp[execOp,ho,Instr.buildSlice,run_underlying ht,sizeOf,typeInfo,hi,Instr.fill,newRow,Array.range_zero']
  ·exact .own _ 0 0 0 0 _ hι rfl (Nat.le_refl _) (.inl rfl) (by simp) (by simp[maxLen])
 ·have yq:fA P w D ι ((List.range (len*(sz+1))).map fun k=>(z.getD (k % z.length) .cm).av) ((Array.range (len*(sz+1))).map (zv.cells[· % zv.cells.size]!)):=by
   refine⟨by simp,fun j x hx=>?_⟩
   simp only[List.getElem?_map,Option.map_eq_some_iff]at hx
   obtain⟨k,hk,rfl⟩:=hx
   have kq:=(List.getElem?_eq_some_iff.1 hk).1
   simp at kq
   rw[List.getElem?_range kq]at hk
   injection hk with hk
   subst hk
   obtain⟨c,hc,T5⟩:=pf hm (by rw[Fk,jG];omega) j kq
   exact⟨c.val,T5,by rw[List.getD_eq_getElem?_getD,hc];exact wI c⟩
  obtain⟨f1,f2,f3,f4⟩:=vD (l.map fun x=>cX env x.2) (sz+1) 0 rs ((List.range (len*(sz+1))).map fun k=>(z.getD (k % z.length) .cm).av) (by omega) (by simp[yj]) hv
  obtain⟨js,h1,h2,h3,h4⟩:=vG (P:=P) (w:=w) (D:=D) (ι:=ι) (fun i=>some (i*it.size,it.size)) (ps.toList.map fun(i,x)=>(i,a.eval x)) _ _ _ _ yq
   (fun b hb=>by obtain⟨c,_,rfl⟩:=List.mem_map.1 hb;exact K.nf _) (by simp[n1]) (fun k i u o' n x sk mC=>by
   simp only[List.getElem?_map,Option.map_eq_some_iff]at sk mC
   obtain⟨⟨i',x'⟩,hp,e1⟩:=sk
   obtain⟨⟨v2,j2⟩,Lz,e2⟩:=mC
   simp only[Prod.mk.injEq]at e1 e2
   obtain⟨rfl,rfl⟩:=e1
   obtain⟨rfl,rfl,rfl⟩:=e2
   rw[List.getElem?_zipIdx]at Lz
   simp only[List.getElem?_map,Option.map_map,Option.map_eq_some_iff,Function.comp_apply,Prod.mk.injEq,Nat.zero_add]at Lz
   obtain⟨⟨i2,y⟩,AJ,rfl,rfl⟩:=Lz
   obtain⟨x2,yn,hc⟩:=r1 _ _ _ AJ
   rw[hp]at yn
   simp only[Option.some.injEq,Prod.mk.injEq]at yn
   obtain⟨rfl,rfl⟩:=yn
   have yh:(l.map (·.1))[k]? =some i':=by rw[List.getElem?_map,AJ];rfl
   have kq:=(List.getElem?_eq_some_iff.1 yh).1
   rw[Rn]at yh
   simp at kq
   rw[List.getElem?_range (by omega)]at yh
   injection yh with yh
   subst yh
   exact⟨by rw[jG],dj E hc⟩) f1
  simp only[Nat.zero_mul,List.take_zero,List.nil_append,List.length_map]at h2 h3 h4 f2
  have dq:js.size=len*(sz+1):=by rw[h2.1,h4];simp
  refine⟨.slice (some ⟨w.heap.size,0,none⟩) len len,js,e,?_,rfl,?_,f3,f4,fun i j cs x mj hj=>h2.2 _ _ (flat_get f3 mj hj),fun ι' hι=>?_⟩
  ·have gi:=run_buildSlice (P:=P) w t e len (ps.map fun(i,x)=>(i,a.eval x)) js it zv ht hi v7 (by rw[jG];omega) (by rw[jG];exact Nat.mul_ne_zero h0 (by omega)) (by rw[<-jG]at h1;simpa using h1)
   simp only[execOp,ho,Sem.run_bind,gi,Result.andThen_ok,Sem.run_pure]
  ·dsimp only;rw[f2,yj,dq];exact Nat.le_refl _
  ·refine .own _ 0 len 0 len _ hι rfl (Nat.le_refl _) (.inr (by simp)) ?_ (by simp only[maxLen];have:=Nat.le_mul_of_pos_right len (show 0<sz+1 by omega);omega)
   dsimp only;rw[dq];simp
theorem GM {t e:TypeId} {it:TypeInfo} {m:Nat} {z:List K} {l c:Operand} {l' c':O} {n:Nat} {r:Row} (E:ck P w D ι env a) (ho:o.op=.makeSlice t l c) (ht:P.underlying t=some (.slice e)) (ft:er P e=some (m+1)) (hz:jK P e=some z) (Ls:P.info? e=some it) (hby:it.bytes<=32768)
  (hl:cO P l=some l') (hc:cO P c=some c') (hv:gJ z (cX env l') (cX env c')=some (n,r)):Mk P a o w D ι id (.own id 0 n) r:=by
 obtain⟨it',zv,hi,v7,hs,hm,Fk⟩:=jY hz
 rw[Ls]at hi;injection hi with hi;subst hi
 have jG:it.size=m+1:=by simpa[er,Ls]using ft
 unfold gJ at hv
 split at hv
 ·rename_i k1 ln k2 cn e1 e2
  split at hv
  ·rename_i hb
   obtain⟨b1,b2,b3⟩:=hb
   simp at hv
   obtain⟨rfl,rfl⟩:=hv
   have r1:=du (e1▸dj E hl)
   have r2:=du (e2▸dj E hc)
   unfold dp at b3
   have MS:(it.bytes:Int)*cn<=281474976710656:=by
    have h1:(it.bytes:Int)<=32768:=by omega
    have h2:(it.bytes:Int)*cn<=32768*16777216:=Int.mul_le_mul h1 (by omega) (by omega) (by omega)
    omega
   have gi:=run_make (P:=P) w t e it zv ht Ls v7 k1 k2 ln cn b1 b2 MS (by omega)
   have kp:∀k,k<cn.toNat*it.size->∃x,z[k % z.length]? =some x/\(madeCells zv.cells (cn.toNat*it.size))[k]? =some x.val:=fun k hk=>pf hm (by rw[Fk,jG];omega) k hk
   refine⟨.slice (some ⟨w.heap.size,0,none⟩) ln.toNat cn.toNat,madeCells zv.cells (cn.toNat*it.size),e,by simp only[execOp,ho,r1,r2,Sem.run_bind,gi,Result.andThen_ok,Sem.run_pure],rfl,?_,?_,?_,?_,fun ι' hι=>?_⟩
   ·simp only[List.length_replicate,size_madeCells,Fk]
    exact Nat.mul_le_mul_right _ (by omega)
   ·intro cs dq
    have:=List.eq_of_mem_replicate dq
    subst this;simp
   ·intro cs dq x hx
    have:=List.eq_of_mem_replicate dq
    subst this
    obtain⟨c,_,rfl⟩:=List.mem_map.1 hx;exact c.nf
   ·intro i j cs x mj hj
    have lO:=(List.getElem?_eq_some_iff.1 mj).1
    have:=List.eq_of_mem_replicate (List.mem_of_getElem? mj)
    subst this
    simp only[List.length_replicate]at lO
    simp only[List.getElem?_map,Option.map_eq_some_iff]at hj
    obtain⟨q,hq,rfl⟩:=hj
    have gP:=(List.getElem?_eq_some_iff.1 hq).1
    dsimp only
    obtain⟨x,hx,yn⟩:=kp (i*z.length+j) (by
     rw[<-Fk]
     calc i*z.length+j<i*z.length+z.length:=by omega
      _=(i+1)*z.length:=by rw[Nat.add_mul,Nat.one_mul]
      _<=cn.toNat*z.length:=Nat.mul_le_mul_right _ (by omega))
    rw[Nat.mul_comm i,Nat.mul_add_mod,Nat.mod_eq_of_lt gP,hq]at hx
    injection hx with hx;subst hx
    exact⟨_,by rw[Nat.mul_comm i]at yn ⊢;exact yn,wI q⟩
   ·refine .own _ 0 _ 0 _ _ hι rfl (by omega) (.inr (by simp)) ?_ (by simp only[maxLen];omega)
    dsimp only;rw[size_madeCells,Fk];simp
  ·simp at hv
 ·simp at hv
end
end Go.Proofs.YtgoljkjaameagaaGreat.V

namespace Go.Proofs.YtgoljkjaameagaaGreat.V
open Go.RowKit
variable {P:Program} {w w':World} {D D':Nat->Prop} {ι ι':Names}
def EK (P:Program) (k:TypeId) (m:MK):Prop:=
 (∃s,m=⟨false,[s]⟩/\fu P k=some s)∨
 (∃fs ts,m=⟨true,ts⟩/\P.underlying k=some (.struct fs)/\eJ P 4 0 fs.toList=some ts/\P.stoodInHeld k=false/\∀f∈fs.toList,(fu P f.type).isSome=true)
theorem rf {t:TypeId} {m:MK} {z:K} (h:sC P t=some (m,z)):∃k e i zv,P.underlying t=some (.map k e)/\P.info? e=some i/\i.zero=some zv/\Gx zv=some z/\EK P k m:=by
 unfold sC at h
 split at h
 ·rename_i k e ht
  split at h
  ·rename_i zv s h1 h2 h3
   simp only[Option.map_eq_some_iff,Prod.mk.injEq]at h
   obtain⟨z',hz,rfl,rfl⟩:=h
   simp only[Option.bind_eq_some_iff]at h2
   obtain⟨i,hi,v7⟩:=h2
   exact⟨k,e,i,zv,ht,hi,v7,hz,.inl ⟨s,rfl,h3⟩⟩
  ·rename_i zv fs h1 h2 h3 h4
   split at h
   ·rename_i ts z' xE hz
    split at h
    ·rename_i hc
     simp only[Option.some.injEq,Prod.mk.injEq]at h
     obtain⟨rfl,rfl⟩:=h
     simp only[Option.bind_eq_some_iff]at h2
     obtain⟨i,hi,v7⟩:=h2
     simp only[Bool.not_eq_true',List.all_eq_true]at hc
     exact⟨k,e,i,zv,ht,hi,v7,hz,.inr ⟨fs,ts,rfl,h4,xE,hc.1,hc.2⟩⟩
    ·cases h
   ·cases h
  ·cases h
 ·cases h
theorem wN {t:TypeId} {s:TS} (ht:fu P t=some s) (em:Bool) (n:Nat) (v:Value):(Instr.checkKey em (n+1) t v).run P w=.ok () w:=by
 unfold Instr.checkKey
 cases s with
 |tB=>simp[run_underlying (pH ht)]
 |tS=>simp[run_underlying (pJ ht)]
 |tI=>
  obtain⟨q,hq⟩:=pI ht
  simp[run_underlying hq]
theorem wO (em:Bool) (n:Nat) (vs:Array Value):∀(d:Nat) (fs:List Field) (off:Nat) (ts:List TS),eJ P (d+1) off fs=some ts->(∀f∈fs,(fu P f.type).isSome=true)->off+ts.length<=vs.size->
  Sem.run P (forIn fs PUnit.unit fun f (_:PUnit)=>if f.name≠ "_" then do
    let x <-Go.part f.type vs f.offset
    Instr.checkKey em (n+1) f.type x
    pure (ForInStep.yield PUnit.unit)
   else pure (ForInStep.yield PUnit.unit)) w=Result.ok PUnit.unit w
 |d,[],off,ts,_,_,_=>by simp
 |d,f::r,off,ts,hf,hs,hl=>by
  rw[yc]at hf
  split at hf
  ·rename_i hcond
   obtain⟨ho,ik⟩:=hcond
   split at hf
   ·rename_i s Qb
    split at hf
    ·rename_i uy
     simp only[Option.map_eq_some_iff]at hf
     obtain⟨Nn,hr,rfl⟩:=hf
     simp only[List.length_cons]at hl
     have ih:=wO em n vs d r (off+1) Nn hr (fun f hf=>hs f (List.mem_cons_of_mem _ hf)) (by omega)
     have hu:vs[off]? =some vs[off]:=by simp
     simp only[List.forIn_cons,Sem.run_bind,if_pos ik,ho,mJ uy hu,Result.andThen_ok,wN Qb,Sem.run_pure]
     exact ih
    ·cases hf
   ·rename_i hn
    have:=hs f (by simp)
    rw[hn]at this;cases this
  ·cases hf
theorem Ei {k:TypeId} {m:MK} (hk:EK P k m) (em:Bool) (key:AV) (u:Value) (uy:key.isAgg=m.ka) (hlen:key.cells.length=m.ks) (hr:cW P w D ι key u):(Instr.checkKey em 10000 k u).run P w=.ok () w:=by
 rcases hk with⟨s,rfl,hs⟩|⟨fs,ts,rfl,rF,xE,dK,dG⟩
 ·exact wN hs em 9999 u
 ·cases key<;>simp[AV.isAgg]at uy
  rename_i cs
  obtain⟨vs,f,rfl,h1,_⟩:=iX hr
  unfold Instr.checkKey
  simp only[Sem.run_bind,run_underlying rF,Result.andThen_ok]
  rw[<-Array.forIn_toList]
  have h:=wO (P:=P) (w:=w) em 9998 vs 3 fs.toList 0 ts xE dG (by simp[AV.cells,MK.ks]at hlen;omega)
  rw[h]
  rfl
theorem H3 (a b:ByteArray):(a==b)=decide (a=b):=by
 by_cases h:a=b
 ·subst h;rw[decide_eq_true rfl]
  obtain⟨x⟩:=a
  show(x==x)=true
  simp
 ·rw[decide_eq_false h,Bool.eq_false_iff]
  intro hc
  obtain⟨x⟩:=a
  obtain⟨y⟩:=b
  exact h (by rw[show x=y by simpa using(show(x==y)=true from hc)])
theorem J0 {t:TypeId} {s:TS} {x y:AV} {u v:Value} {b:Bool} {d:TypeDesc} (ht:fu P t=some s) (hd:P.underlying t=some d) (he:fD s x y=some b) (hx:cW P w D ι x u) (hy:cW P w D ι y v):Instr.sameNow d u v=some b:=by
 unfold fD at he
 split at he
 ·rename_i k n k' n'
  split at he
  ·rename_i hk
   subst hk
   simp at he;subst he
   obtain⟨q,hq⟩:=pI ht
   rw[hd]at hq;injection hq with hq;subst hq
   rw[du hx,du hy]
   simp[Instr.sameNow]
   rfl
  ·cases he
 ·simp at he;subst he
  have hq:=pH ht
  rw[hd]at hq;injection hq with hq;subst hq
  rw[e5 hx,e5 hy];rfl
 ·rename_i a c
  simp at he;subst he
  have hq:=pJ ht
  rw[hd]at hq;injection hq with hq;subst hq
  rw[fE hx,fE hy]
  simp only[Instr.sameNow,H3]
 ·cases he
def Found (es:List MapEntry) (i:Nat) (r:Option Nat) (res:Option (Nat×Value)):Prop:=(r=none/\res=none)∨∃j e,r=some (i+j)/\es[j]? =some e/\res=some (i+j,e.val)
theorem vI {e:MapEntry} {es:List MapEntry} {i:Nat} {r:Option Nat} {res:Option (Nat×Value)} (h:Found es (i+1) r res):Found (e::es) i r res:=by
 rcases h with h|⟨j,x,h1,h2,h3⟩
 ·exact .inl h
 ·exact .inr ⟨j+1,x,by rw[h1];congr 1;omega,by simpa using h2,by rw[h3];congr 2;omega⟩
theorem Bl {t:TypeId} {s:TS} {d:TypeDesc} {x:AV} {u:Value} (ht:fu P t=some s) (hd:P.underlying t=some d) (hx:cW P w D ι x u):∀(rows:List (List AV)) (es:List MapEntry) (i:Nat) (r:Option Nat),es.length=rows.length->
  (∀(j:Nat) (cs:List AV),rows[j]? =some cs->∃(e:MapEntry) (kv:AV),es[j]? =some e/\cs.head? =some kv/\cW P w D ι kv e.key)->gm ⟨false,[s]⟩ [x] rows i=some r->∃res,Instr.findNow d u es i=some res/\Found es i r res
 |[],[],i,r,_,_,h=>by
  simp[gm]at h;subst h
  exact⟨none,rfl,.inl ⟨rfl,rfl⟩⟩
 |[],e::es,i,r,hl,_,h=>by simp at hl
 |cs::rows,[],i,r,hl,_,h=>by simp at hl
 |cs::rows,e::es,i,r,hl,hr,h=>by
  obtain⟨e',kv,Ln,hk,gN⟩:=hr 0 cs rfl
  simp at Ln;subst Ln
  have dq:cs.take (MK.ks ⟨false,[s]⟩)=[kv]:=by
   cases cs with
   |nil=>simp at hk
   |cons a l=>simp at hk;subst hk;simp[MK.ks]
  unfold gm at h
  rw[dq]at h
  cases hq:fD s x kv with
  |none=>simp[eS,hq]at h
  |some b=>
   have hs:=J0 ht hd hq hx gN
   cases b with
   |true=>
    simp[eS,hq]at h;subst h
    exact⟨some (i,e.val),by simp[Instr.findNow,hs],.inr ⟨0,e,rfl,rfl,rfl⟩⟩
   |false=>
    simp[eS,hq]at h
    obtain⟨res,h1,h2⟩:=Bl ht hd hx rows es (i+1) r (by simpa using hl) (fun j cs hj=>hr (j+1) cs (by simpa using hj)) h
    exact⟨res,by simp[Instr.findNow,hs,h1],vI h2⟩
theorem qd {t:TypeId} {fs:Array Field} {ts:List TS} {xs ys:List AV} {vs us:Array Value} {b:Bool} (rF:P.underlying t=some (.struct fs)) (dK:P.stoodInHeld t=false) (xE:eJ P 4 0 fs.toList=some ts) (hx:fA P w D ι xs vs) (hy:fA P w D ι ys us) (hv:eS ts xs ys=some b):(Op.equal t (.agg vs) (.agg us)).run P w=.ok b w:=by
 obtain⟨l1,l2⟩:=rz hv
 have q:=rY (w:=w) 4 fs.toList 0 ts xE 9998 (by omega) xs ys vs us b hx hy (by simpa[List.take_of_length_le,l1,l2]using hv)
 have II:P.fieldsOf t=fs:=by simp[Program.fieldsOf,rF]
 unfold Op.equal
 rw[show Op.maxDepth=9999+1 from rfl,run_equalIn_struct w 9999 t _ _ (by rw[II];exact rF) dK,II,q]
theorem rW {cs:List AV} {v:Value} (h:cW P w D ι (.agg cs) v):∃vs,v=.agg vs/\fA P w D ι cs vs:=by
 obtain⟨vs,f,rfl,n1,_,f1,r1⟩:=iX h
 exact⟨vs,rfl,n1,fun j a ha=>⟨f j,f1 j (List.getElem?_eq_some_iff.1 ha).1,r1 j a ha⟩⟩
theorem Bk {t:TypeId} {fs:Array Field} {ts:List TS} {xs:List AV} {vs:Array Value} (rF:P.underlying t=some (.struct fs)) (dK:P.stoodInHeld t=false) (xE:eJ P 4 0 fs.toList=some ts) (hx:fA P w D ι xs vs):∀(rows:List (List AV)) (es:List MapEntry) (i:Nat) (r:Option Nat),es.length=rows.length->
  (∀(j:Nat) (cs:List AV),rows[j]? =some cs->∃e:MapEntry,es[j]? =some e/\cW P w D ι (.agg (cs.take ts.length)) e.key)->gm ⟨true,ts⟩ xs rows i=some r->∃res,(Instr.findAsking t (.agg vs) es i).run P w=.ok res w/\Found es i r res
 |[],[],i,r,_,_,h=>by
  simp[gm]at h;subst h
  exact⟨none,by simp[Instr.findAsking],.inl ⟨rfl,rfl⟩⟩
 |[],e::es,i,r,hl,_,h=>by simp at hl
 |cs::rows,[],i,r,hl,_,h=>by simp at hl
 |cs::rows,e::es,i,r,hl,hr,h=>by
  obtain⟨e',Ln,gN⟩:=hr 0 cs rfl
  simp at Ln;subst Ln
  obtain⟨us,hk,hy⟩:=rW gN
  unfold gm at h
  simp only[MK.ks]at h
  split at h
  ·rename_i hq
   simp at h;subst h
   have q:=qd rF dK xE hx hy hq
   exact⟨some (i,e.val),by simp[Instr.findAsking,hk,q],.inr ⟨0,e,rfl,rfl,rfl⟩⟩
  ·rename_i hq
   have q:=qd rF dK xE hx hy hq
   obtain⟨res,h1,h2⟩:=Bk rF dK xE hx rows es (i+1) r (by simpa using hl) (fun j cs hj=>hr (j+1) cs (by simpa using hj)) h
   exact⟨res,by simp[Instr.findAsking,hk,q,h1],vI h2⟩
  ·cases h
theorem vm {a:AV} (h:a.isAgg=false):a.cells=[a]:=by cases a<;>simp_all [AV.isAgg,AV.cells]
theorem vH {k:TypeId} {m:MK} {B:si} {r:Row} (hk:EK P k m) {key:AV} {u:Value} (hr:cW P w D ι key u) {es:Array MapEntry} (ft:es.size=r.rows.length)
  (hM:∀(i:Nat) (cs:List AV),r.rows[i]? =some cs->∃(e:MapEntry) (kv vv:AV),es[i]? =some e/\part m.ka m.ks cs=some kv/\cs[m.ks]? =some vv/\cW P w D ι kv e.key/\cW P w D ι vv e.val) {fi:Option Nat} (h:fR m key r.rows=some fi):
  (∀em,(Instr.checkKey em 10000 k u).run P w=.ok () w)/\∃res,(Instr.findKey k u es.toList).run P w=.ok res w/\Found es.toList 0 fi res:=by
 unfold fR at h
 split at h
 ·rename_i hc
  obtain⟨c1,c2,c3⟩:=hc
  refine⟨fun em=>Ei hk em key u c1 c2 hr,?_⟩
  rcases hk with⟨s,rfl,hs⟩|⟨fs,ts,rfl,rF,xE,dK,dG⟩
  ·rw[vm c1]at h
   have hd:∃d,P.underlying k=some d:=by
    cases s with
    |tB=>exact⟨_,pH hs⟩
    |tS=>exact⟨_,pJ hs⟩
    |tI=>obtain⟨q,hq⟩:=pI hs;exact⟨_,hq⟩
   obtain⟨d,hd⟩:=hd
   obtain⟨res,h1,h2⟩:=Bl hs hd hr r.rows es.toList 0 fi (by simpa using ft) (fun j cs hj=>by
    obtain⟨e,kv,vv,q1,q2,_,q4,_⟩:=hM j cs hj
    exact⟨e,kv,by simpa using q1,by simpa[part]using q2,q4⟩) h
   exact⟨res,by simp[Instr.findKey,run_underlying hd,h1],h2⟩
  ·cases key<;>simp[AV.isAgg]at c1
   rename_i cs
   obtain⟨vs,rfl,hL⟩:=rW hr
   obtain⟨res,h1,h2⟩:=Bk rF dK xE hL r.rows es.toList 0 fi (by simpa using ft) (fun j cs hj=>by
    obtain⟨e,kv,vv,q1,q2,_,q4,_⟩:=hM j cs hj
    unfold part at q2
    simp only[if_true]at q2
    split at q2
    ·simp only[Option.some.injEq]at q2;subst q2
     exact⟨e,by simpa using q1,q4⟩
    ·cases q2) h
   exact⟨res,(run_findKey_eq w (by simp[rF]) _ _).trans h1,h2⟩
 ·cases h
section
variable {g:Rows} {hs:Nat} {env:Env} {a:Act} {o:Oper} {id:Id} {v:AV}
theorem zU {m:MK} {x:AV} {u:Value} {p:Id×Row} (S:gw P hs D ι g w) (hr:cW P w D ι x u) (h:dL g m x=some p):∃B,u=.map (some B.b)/\g p.1=some p.2/\ι p.1=some B/\B.k=some (.map m)/\MF P w D ι B m p.2:=by
 unfold dL at h
 split at h
 ·rename_i i m'
  split at h
  ·rename_i hm
   subst hm
   simp only[Option.map_eq_some_iff]at h
   obtain⟨r,hg,rfl⟩:=h
   obtain⟨B,rfl,hB,hk⟩:=Fw hr
   obtain⟨B',dF,R,_⟩:=S.row i r hg
   rw[hB]at dF;injection dF with dF;subst dF
   exact⟨B,rfl,hg,hB,hk,(R.map _ hk).2⟩
  ·cases h
 ·cases h
theorem PH {t:TypeId} {x k:Operand} {ok:Bool} {m:MK} {z:K} {x' k':O} {mr:Option Row} (S:gw P hs D ι g w) (E:ck P w D ι env a) (ho:o.op=.lookup t x k ok) (hc:sC P t=some (m,z)) (hx:cO P x=some x') (hk:cO P k=some k')
  (hv:bq (.look m ok z) [cX env x',cX env k'] g id=some (v,mr)):mr=none/\oj P a o w D ι v:=by
 obtain⟨kt,e,i,zv,ht,hi,v7,SK,hK⟩:=rf hc
 simp only[bq,Option.bind_eq_some_iff,Option.map_eq_some_iff,Prod.mk.injEq]at hv
 obtain⟨p,hp,fi,Gg,y,hy,rfl,rfl⟩:=hv
 obtain⟨B,hu,hg,hB,uw,es,clock,hb,ft,hlen,hM⟩:=zU S (dj E hx) hp
 obtain⟨KG,res,hf,hF⟩:=vH (B:=B) hK (dj E hk) ft hM Gg
 have key:∃val,(match res with|some (_,v)=>(v,true)|none=>(zv,false))=(val,fi.isSome)/\cW P w D ι y val:=by
  rcases hF with⟨rfl,rfl⟩|⟨j,en,rfl,he,rfl⟩
  ·simp only[dQ,Option.some.injEq]at hy;subst hy
   refine⟨zv,rfl,?_⟩
   rw[zL SK];exact wI z
  ·simp only[dQ,Option.bind_eq_some_iff,Nat.zero_add]at hy
   obtain⟨cs,dq,hy⟩:=hy
   obtain⟨e',kv,vv,q1,_,q3,_,q5⟩:=hM _ cs dq
   rw[hy]at q3;injection q3 with q3;subst q3
   have:e'=en:=by
    have h1:es.toList[j]? =some e':=by simpa using q1
    rw[he]at h1;injection h1 with h1;exact h1.symm
   subst this
   exact⟨_,rfl,q5⟩
 obtain⟨val,qD,lP⟩:=key
 have fW:(getObj B.b).run P w=.ok (.map es clock) w:=MapKept.run_getObj_map hb
 have hz:(zeroValue e).run P w=.ok zv w:=by simp[zeroValue,typeInfo,hi,v7]
 refine⟨rfl,if ok then .tuple #[val,.bool fi.isSome]else val,?_,?_⟩
 ·simp only[execOp,ho,hu,Instr.lookup,Sem.run_bind,run_underlying ht,Result.andThen_ok,fW,Sem.run_pure,KG,hf]
  rcases hF with⟨rfl,rfl⟩|⟨j,en,rfl,he,rfl⟩
  ·simp only[Prod.mk.injEq]at qD
   simp[hz,qD.1]
  ·simp only[Prod.mk.injEq]at qD
   simp[qD.1]
 ·cases ok with
  |false=>exact lP
  |true=>
   refine .gy _ _ (fun j=>if j=0 then val else .bool fi.isSome) rfl (fun j hj=>?_) (fun j b hj=>?_)
   ·have:j=0∨j=1:=by simp at hj;omega
    rcases this with rfl|rfl<;>rfl
   ·match j,hj with
    |0,hj=>simp at hj;subst hj;exact lP
    |1,hj=>simp at hj;subst hj;exact .eQ _ _ (.bool _)
    |j+2,hj=>simp at hj
theorem PK {t:TypeId} {x:Operand} {m:MK} {z:K} {x':O} {mr:Option Row} (S:gw P hs D ι g w) (E:ck P w D ι env a) (ho:o.op=.call {callee:=.builtin .len,args:= #[x],argTypes:= #[t]}) (hc:sC P t=some (m,z)) (hx:cO P x=some x')
  (hv:bq (.len m) [cX env x'] g id=some (v,mr)):mr=none/\oj P a o w D ι v:=by
 obtain⟨kt,e,i,zv,ht,hi,v7,SK,hK⟩:=rf hc
 simp only[bq,Option.map_eq_some_iff,Prod.mk.injEq]at hv
 obtain⟨p,hp,rfl,rfl⟩:=hv
 obtain⟨B,hu,hg,hB,uw,es,clock,hb,ft,hlen,hM⟩:=zU S (dj E hx) hp
 have fW:(getObj B.b).run P w=.ok (.map es clock) w:=MapKept.run_getObj_map hb
 refine⟨rfl,.int .i64 (es.size:Int),?_,by rw[ft];exact .eQ _ _ (.int _ _)⟩
 simp only[execOp,ho,resolve,Sem.run_bind,Sem.run_pure,Result.andThen_ok,invoke,builtin,Array.map,hu]
 simp[Builtin.len_,run_underlying ht,goInt,hu,fW]
def MkM (P:Program) (a:Act) (o:Oper) (w:World) (id:Id) (v:AV) (r:Row):Prop:=
 ∃m,(execOp a.eval o).run P w=.ok (.value (.map (some w.heap.size))) (w.alloc (.map #[] 0))/\v=.map id m/\r=⟨true,m.pE,[]⟩
theorem RH {t:TypeId} {m:MK} (ho:o.op=.makeMap t none):MkM P a o w id (.map id m) ⟨true,m.pE,[]⟩:=by
 refine⟨m,?_,rfl,rfl⟩
 simp[execOp,ho,Instr.makeMap,go_sem]
def MkC (P:Program) (a:Act) (o:Oper) (w:World) (id:Id) (v:AV) (r:Row):Prop:=
 ∃n,(execOp a.eval o).run P w=.ok (.value (.chan (some w.heap.size))) (w.alloc (.chan n #[] false 0 0 false))/\v=.rl id/\r=⟨true,qo+n,[]⟩
theorem OU {t e:TypeId} {x:Operand} {x':O} {dir:ChanDir} {i:TypeInfo} {n:Nat} (E:ck P w D ι env a) (ho:o.op=.makeChan t x) (ht:P.underlying t=some (.chan dir e)) (hi:P.info? e=some i) (hb:i.bytes<=32768) (hx:cO P x=some x') (hn:cK (cX env x')=some n):MkC P a o w id (.rl id) ⟨true,qo+n,[]⟩:=by
 refine⟨n,?_,rfl,rfl⟩
 have hr:=dj E hx
 unfold cK at hn
 split at hn
 ·rename_i k m hm
  rw[hm]at hr
  split at hn
  ·rename_i hc
   simp only[Option.some.injEq]at hn
   subst hn
   have KN:((m.toNat:Nat):Int)=m:=by omega
   have dJ:(i.bytes:Int)*(m.toNat:Nat)<=281474976710544:=by
    have h1:i.bytes*m.toNat<=32768*1048576:=Nat.mul_le_mul hb (by omega)
    have h2:((i.bytes*m.toNat:Nat):Int)<=281474976710544:=by omega
    rwa [Int.natCast_mul]at h2
   have h:=Conc.run_makeChan (P:=P) (w:=w) ht hi k m.toNat (by omega) dJ
   rw[KN]at h
   simp only[execOp,ho,du hr,Sem.run_bind,h,Result.andThen_ok,Sem.run_pure]
  ·cases hn
 ·cases hn
theorem zm {x:AV} {u:Value} {i:Id} {r:Row} (S:gw P hs D ι g w) (hr:cW P w D ι x u) (hx:x=.rl i) (hg:g i=some r):∃B c,u=.chan (some B.b)/\ι i=some B/\B.k=some (.chan c)/\r.sz=qo+c/\HK P w D ι B c r:=by
 subst hx
 obtain⟨B,c,rfl,hB,hk⟩:=Me hr
 obtain⟨B',dF,R,_⟩:=S.row i r hg
 rw[hB]at dF;injection dF with dF;subst dF
 exact⟨B,c,rfl,hB,hk,R.chan c hk⟩
theorem PE {t e:TypeId} {dir:ChanDir} {x:Operand} {x':O} (S:gw P hs D ι g w) (E:ck P w D ι env a) (ho:o.op=.call {callee:=.builtin .len,args:= #[x],argTypes:= #[t]}) (ht:P.underlying t=some (.chan dir e)) (hx:cO P x=some x') (hv:cI g (cX env x')=some v):oj P a o w D ι v:=by
 have hr:=dj E hx
 unfold cI at hv
 split at hv
 ·rename_i i he
  simp only[Option.map_eq_some_iff]at hv
  obtain⟨r,hg,rfl⟩:=hv
  obtain⟨B,c,hu,hB,hk,ft,buf,s,q,hb,KF,_⟩:=zm S hr he hg
  have fW:(getObj B.b).run P w=.ok (.chan c buf false s q false) w:=by simp[getObj,Sem.run,hb]
  refine⟨.int .i64 (buf.size:Int),?_,by rw[KF];exact .eQ _ _ (.int _ _)⟩
  simp only[execOp,ho,resolve,Sem.run_bind,Sem.run_pure,Result.andThen_ok,invoke,builtin,Array.map,hu]
  simp[Builtin.len_,run_underlying ht,goInt,hu,fW]
 ·cases hv
end
end Go.Proofs.YtgoljkjaameagaaGreat.V

namespace Go.Proofs.YtgoljkjaameagaaGreat.V
open Go.RowKit
variable {P:Program} {w w':World} {D D':Nat->Prop} {ι ι':Names}
def KY (P:Program) (a:Act) (o:Oper) (w:World) (D:Nat->Prop) (ι:Names) (id:Id) (v:AV):Option Row->Prop
 |none=>oj P a o w D ι v
 |some r=>Mk P a o w D ι id v r∨MkM P a o w id v r∨MkC P a o w id v r
section
variable {g:Rows} {hs:Nat} {env:Env} {a:Act} {o:Oper} {id:Id} {v:AV}
theorem lF {x:Option AV} {mr:Option Row} (h:x.map (·,(none:Option Row))=some (v,mr)) (H:x=some v->oj P a o w D ι v):KY P a o w D ι id v mr:=by
 cases x with
 |none=>simp at h
 |some y=>simp at h;obtain⟨rfl,rfl⟩:=h;exact H rfl
theorem RQ {neg:Bool} {t yt:TypeId} {x y:Operand} {vo:gC} {mr:Option Row} (ho:o.op=.binOp (if neg then .neq else .eql) t x y yt) (hc:sw P neg t x y=some vo) (hq:eG vo (cX env) g id=some (v,mr)) (E:ck P w D ι env a):KY P a o w D ι id v mr:=by
 unfold sw at hc
 split at hc
 ·split at hc
  ·rename_i e ht
   simp only[Option.map_eq_some_iff]at hc
   obtain⟨x',hx,rfl⟩:=hc
   simp only[eG,dW,Bool.false_eq_true,if_false,Option.map_eq_some_iff,Prod.mk.injEq]at hq
   obtain⟨b,hb,rfl,rfl⟩:=hq
   exact Py E ho ht hx hb
  ·simp at hc
 ·split at hc
  ·rename_i ht
   simp only[Option.map_eq_some_iff]at hc
   obtain⟨x',hx,rfl⟩:=hc
   simp only[eG,dW,if_true,Option.map_eq_some_iff,Prod.mk.injEq]at hq
   obtain⟨b,hb,rfl,rfl⟩:=hq
   exact Px E ho ht hx hb
  ·simp at hc
 ·split at hc
  ·rename_i ht
   simp only[Option.map_eq_some_iff]at hc
   obtain⟨x',hx,rfl⟩:=hc
   simp only[eG,Option.map_eq_some_iff,Prod.mk.injEq]at hq
   obtain⟨b,hb,rfl,rfl⟩:=hq
   exact R8 E ho ht hx hb
  ·simp at hc
 ·split at hc
  ·rename_i s hs
   simp only[Option.bind_eq_bind,Option.bind_eq_some_iff,Option.pure_def,Option.some.injEq]at hc
   obtain⟨x',hx,y',hy,rfl⟩:=hc
   simp only[eG,Option.map_eq_some_iff,Prod.mk.injEq]at hq
   obtain⟨b,hb,rfl,rfl⟩:=hq
   have BC:fu P t=some s:=by
    unfold Tt at hs
    split at hs
    ·rename_i s' h;simp at hs;subst hs;exact h
    ·split at hs
     ·split at hs
      ·simp at hs
      ·simp at hs
     ·simp at hs
   exact R9 E ho BC hx hy hb
  ·rename_i ts hs
   simp only[Option.bind_eq_bind,Option.bind_eq_some_iff,Option.pure_def,Option.some.injEq]at hc
   obtain⟨x',hx,y',hy,rfl⟩:=hc
   simp only[eG]at hq
   split at hq
   ·rename_i xs ys h1 h2
    simp only[Option.map_eq_some_iff,Prod.mk.injEq]at hq
    obtain⟨b,hb,rfl,rfl⟩:=hq
    unfold Tt at hs
    split at hs
    ·simp at hs
    ·split at hs
     ·rename_i fs rF
      split at hs
      ·rename_i hg
       simp only[Option.map_eq_some_iff,Ti.ag.injEq]at hs
       obtain⟨Nn,xE,rfl⟩:=hs
       simp only[Bool.and_eq_true,Bool.not_eq_true']at hg
       exact R7 E ho rF hg.1 hg.2 xE hx hy h1 h2 hb
      ·simp at hs
     ·simp at hs
   ·simp at hq
  ·simp at hc
theorem O4 {c:Call} {vo:gC} {mr:Option Row} (ho:o.op=.call c) (hc:nE P c=some vo) (hq:eG vo (cX env) g id=some (v,mr)) (S:gw P hs D ι g w) (E:ck P w D ι env a):KY P a o w D ι id v mr:=by
 unfold nE at hc
 split at hc
 ·rename_i kE
  split at hc
  ·rename_i x t h1 h2
   have hce:c={callee:=.builtin .len,args:= #[x],argTypes:= #[t]}:=by
    obtain⟨a,b,c⟩:=c
    simp only at h1 h2 kE
    subst kE
    congr
    ·exact Array.ext' h1
    ·exact Array.ext' h2
   rw[hce]at ho
   split at hc
   ·rename_i e ht
    simp only[Option.map_eq_some_iff]at hc
    obtain⟨x',hx,rfl⟩:=hc
    simp only[eG,Option.map_eq_some_iff,Prod.mk.injEq]at hq
    obtain⟨n,hn,rfl,rfl⟩:=hq
    exact Sa E ho ht hx hn
   ·rename_i ht
    simp only[Option.map_eq_some_iff]at hc
    obtain⟨x',hx,rfl⟩:=hc
    exact lF hq fun h=>PF E ho ht hx h
   ·split at hc
    ·rename_i m z x' hm hx
     simp only[Option.some.injEq]at hc
     subst hc
     obtain⟨rfl,h⟩:=PK (id:=id) S E ho hm hx hq
     exact h
    ·cases hc
   ·rename_i ht
    simp only[Option.map_eq_some_iff]at hc
    obtain⟨x',hx,rfl⟩:=hc
    exact lF hq fun h=>PE S E ho ht hx h
   ·simp at hc
  ·simp at hc
 ·split at hc
  ·split at hc
   ·split at hc
    ·split at hc
     ·simp only[Option.bind_eq_bind,Option.bind_eq_some_iff,Option.pure_def,Option.some.injEq]at hc
      obtain⟨x',hx,y',hy,rfl⟩:=hc
      simp[eG]at hq
     ·simp at hc
    ·simp at hc
   ·simp at hc
  ·simp at hc
 ·split at hc
  ·split at hc
   ·split at hc
    ·simp only[Option.map_eq_some_iff]at hc
     obtain⟨x',hx,rfl⟩:=hc
     simp[eG]at hq
    ·simp at hc
   ·simp at hc
  ·simp at hc
 ·split at hc
  ·simp only[Option.map_eq_some_iff]at hc
   obtain⟨x',hx,rfl⟩:=hc
   simp[eG]at hq
  ·simp at hc
 ·simp only[Option.map_eq_some_iff]at hc
  obtain⟨x',hx,rfl⟩:=hc
  simp[eG]at hq
 ·split at hc
  ·split at hc
   ·simp only[Option.some.injEq]at hc
    subst hc
    simp[eG]at hq
   ·cases hc
  ·cases hc
 ·split at hc
  ·split at hc
   ·split at hc
    ·simp only[Option.bind_eq_bind,Option.bind_eq_some_iff,Option.pure_def,Option.some.injEq]at hc
     obtain⟨x',hx,y',hy,rfl⟩:=hc
     simp[eG]at hq
    ·simp at hc
   ·simp at hc
  ·simp at hc
 ·simp at hc
theorem yS {vo:gC} {mr:Option Row} (hc:qR P o.op=some vo) (hq:eG vo (cX env) g id=some (v,mr)) (S:gw P hs D ι g w) (E:ck P w D ι env a):KY P a o w D ι id v mr:=by
 unfold qR at hc
 split at hc
 ·rename_i ho
  simp only[Option.map_eq_some_iff]at hc
  obtain⟨x',hx,rfl⟩:=hc
  simp[eG]at hq;obtain⟨rfl,rfl⟩:=hq
  exact Nq E (.inl ho) hx
 ·rename_i ho
  simp only[Option.map_eq_some_iff]at hc
  obtain⟨x',hx,rfl⟩:=hc
  simp[eG]at hq;obtain⟨rfl,rfl⟩:=hq
  exact Nq E (.inr ho) hx
 ·rename_i ho
  simp only[Option.bind_eq_bind,Option.bind_eq_some_iff,Option.pure_def,Option.some.injEq]at hc
  obtain⟨c',h1,x',h2,y',h3,rfl⟩:=hc
  exact lF hq fun h=>PL E ho h1 h2 h3 h
 ·rename_i ho
  simp only[Option.map_eq_some_iff]at hc
  obtain⟨z,hz,rfl⟩:=hc
  simp only[eG,Option.some.injEq,Prod.mk.injEq]at hq
  obtain⟨rfl,rfl⟩:=hq
  exact .inl (RI ho hz)
 ·rename_i ho
  simp only[Option.map_eq_some_iff]at hc
  obtain⟨x',hx,rfl⟩:=hc
  simp only[eG,Option.map_eq_some_iff,Prod.mk.injEq]at hq
  obtain⟨cs,dq,rfl,rfl⟩:=hq
  exact .inl (RG E ho hx dq)
 ·rename_i ho
  simp only[Option.bind_eq_bind,Option.bind_eq_some_iff,Option.pure_def,Option.some.injEq]at hc
  obtain⟨ag,h1,n,h2,x',h3,rfl⟩:=hc
  exact lF hq fun h=>PG S E ho h1 h2 h3 h
 ·rename_i ho
  simp only[Option.bind_eq_bind,Option.bind_eq_some_iff,Option.pure_def,Option.some.injEq]at hc
  obtain⟨n,h2,x',h3,y',h4,rfl⟩:=hc
  simp[eG]at hq
 ·rename_i ho
  simp only[Option.map_eq_some_iff]at hc
  obtain⟨x',hx,rfl⟩:=hc
  exact lF hq fun h=>R6 E ho hx h
 ·rename_i op t x y yt ho
  unfold u7 at hc
  split at hc
  ·exact RQ (neg:=false) ho hc hq E
  ·exact RQ (neg:=true) ho hc hq E
  ·simp only[Option.bind_eq_bind,Option.bind_eq_some_iff,Option.pure_def,Option.some.injEq]at hc
   obtain⟨x',h3,y',h4,rfl⟩:=hc
   exact lF hq fun h=>Sd (left:=true) E ho h3 h4 h
  ·simp only[Option.bind_eq_bind,Option.bind_eq_some_iff,Option.pure_def,Option.some.injEq]at hc
   obtain⟨x',h3,y',h4,rfl⟩:=hc
   exact lF hq fun h=>Sd (left:=false) E ho h3 h4 h
  ·rename_i n1 n2 n3 n4
   split at hc
   ·simp only[Option.bind_eq_bind,Option.bind_eq_some_iff,Option.pure_def,Option.some.injEq]at hc
    obtain⟨x',h3,y',h4,rfl⟩:=hc
    exact lF hq fun h=>R5 E ho n1 n2 h3 h4 h
   ·simp only[Option.bind_eq_bind,Option.bind_eq_some_iff,Option.pure_def,Option.some.injEq]at hc
    obtain⟨x',h3,y',h4,rfl⟩:=hc
    exact lF hq fun h=>Pv E ho n1 n2 h3 h4 h
   ·simp at hc
 ·rename_i ho
  simp only[Option.map_eq_some_iff]at hc
  obtain⟨x',hx,rfl⟩:=hc
  exact lF hq fun h=>Sc E ho hx h
 ·rename_i ho
  simp only[Option.map_eq_some_iff]at hc
  obtain⟨x',hx,rfl⟩:=hc
  exact lF hq fun h=>Sb E ho hx h
 ·rename_i ho
  split at hc
  ·rename_i q k h1 h2
   simp only[Option.map_eq_some_iff]at hc
   obtain⟨x',hx,rfl⟩:=hc
   exact lF hq fun h=>Pw E ho h1 h2 hx h
  ·rename_i h1 h2
   simp only[Option.map_eq_some_iff]at hc
   obtain⟨x',hx,rfl⟩:=hc
   exact lF hq fun h=>by
    have hr:=dj E hx
    unfold bG at h
    split at h
    ·rename_i s hb
     simp at h;subst h
     rw[hb]at hr
     exact⟨.string s,by simp only[execOp,ho,fE hr,convert,Sem.run_bind,run_underlying h1,run_underlying h2,Result.andThen_ok,Sem.run_pure],.eQ _ _ (.str _)⟩
    ·simp at h
  ·simp at hc
 ·rename_i ho
  split at hc
  ·rename_i e ht
   simp only[Option.bind_eq_bind,Option.bind_eq_some_iff,Option.pure_def,Option.some.injEq]at hc
   obtain⟨n,h1,x',h2,lo,h3,hi,h4,rfl⟩:=hc
   exact lF hq fun h=>MB S E ho ht h1 h2 h3 h4 h
  ·rename_i ht
   simp only[Option.bind_eq_bind,Option.bind_eq_some_iff,Option.pure_def,Option.some.injEq]at hc
   obtain⟨x',h2,lo,h3,hi,h4,rfl⟩:=hc
   exact lF hq fun h=>Ky E ho ht h2 h3 h4 h
  ·simp at hc
 ·rename_i ho
  split at hc
  ·rename_i fs rF
   split at hc
   ·rename_i f hf
    split at hc
    ·rename_i m hm
     simp only[Option.map_eq_some_iff]at hc
     obtain⟨x',hx,rfl⟩:=hc
     exact lF hq fun h=>My E ho rF hf hm hx h
    ·simp at hc
   ·simp at hc
  ·simp at hc
 ·rename_i ho
  split at hc
  ·rename_i fs rF
   split at hc
   ·rename_i f hf
    simp only[Option.bind_eq_bind,Option.bind_eq_some_iff,Option.pure_def,Option.some.injEq]at hc
    obtain⟨ag,h1,n,h2,x',h3,rfl⟩:=hc
    exact lF hq fun h=>Mz E ho rF hf h1 h2 h3 h
   ·simp at hc
  ·simp at hc
 ·rename_i ho
  split at hc
  ·rename_i e ht
   split at hc
   ·rename_i m hm
    simp only[Option.bind_eq_bind,Option.bind_eq_some_iff,Option.pure_def,Option.some.injEq]at hc
    obtain⟨x',h1,i',h2,rfl⟩:=hc
    exact lF hq fun h=>MA S E ho ht hm h1 h2 h
   ·simp at hc
  ·rename_i len e ht
   split at hc
   ·rename_i m hm
    simp only[Option.bind_eq_bind,Option.bind_eq_some_iff,Option.pure_def,Option.some.injEq]at hc
    obtain⟨x',h1,i',h2,rfl⟩:=hc
    exact lF hq fun h=>Pz E ho ht hm h1 h2 h
   ·simp at hc
  ·simp at hc
 ·rename_i ho
  split at hc
  ·rename_i ht
   simp only[Option.bind_eq_bind,Option.bind_eq_some_iff,Option.pure_def,Option.some.injEq]at hc
   obtain⟨x',h1,i',h2,rfl⟩:=hc
   exact lF hq fun h=>PD E ho ht h1 h2 h
  ·rename_i len e ht
   simp only[Option.bind_eq_bind,Option.bind_eq_some_iff,Option.pure_def,Option.some.injEq]at hc
   obtain⟨ag,h0,n,h1,x',h2,i',h3,rfl⟩:=hc
   exact lF hq fun h=>PA E ho ht h0 h1 h2 h3 h
  ·simp at hc
 ·rename_i ho
  simp only[Option.map_eq_some_iff]at hc
  obtain⟨x',hx,rfl⟩:=hc
  exact lF hq fun h=>Ht E ho hx h
 ·rename_i ho
  split at hc
  ·rename_i fs rF
   split at hc
   ·rename_i z l hz hl
    split at hc
    ·rename_i dG
     simp only[Option.map_eq_some_iff]at hc
     obtain⟨q,Lz,rfl⟩:=hc
     simp only[eG,Option.map_eq_some_iff,Prod.mk.injEq]at hq
     obtain⟨cs,dq,rfl,rfl⟩:=hq
     exact Mx E ho rF hz hl (fun f hf=>by
      rw[Array.all_eq_true_iff_forall_mem]at dG
      exact dG f (Array.mem_toList_iff.1 hf)) Lz dq
    ·simp at hc
   ·simp at hc
  ·rename_i len e ht
   split at hc
   ·rename_i z l n hz hl hn
    simp only[Option.some.injEq]at hc
    subst hc
    simp only[eG,Option.map_eq_some_iff,Prod.mk.injEq]at hq
    obtain⟨cs,dq,rfl,rfl⟩:=hq
    exact Kx E ho ht hz hl hn dq
   ·simp at hc
  ·simp at hc
 ·rename_i ho
  split at hc
  ·rename_i e ht
   split at hc
   ·rename_i sz z l h1 h2 h3
    split at hc
    ·rename_i hh
     simp only[Option.some.injEq]at hc
     subst hc
     simp only[eG,Option.map_eq_some_iff,Prod.mk.injEq]at hq
     obtain⟨rs,ym,rfl,rfl⟩:=hq
     exact .inl (Jt E ho ht h1 h2 h3 hh.1 hh.2 (by rw[List.map_map]at ym;exact ym))
    ·simp at hc
   ·simp at hc
  ·simp at hc
 ·rename_i ho
  split at hc
  ·rename_i hh
   simp only[Option.map_eq_some_iff]at hc
   obtain⟨l,hl,rfl⟩:=hc
   simp[eG]at hq;obtain⟨rfl,rfl⟩:=hq
   exact PI E ho hh.1 hh.2 hl
  ·split at hc
   ·rename_i hh
    simp only[Option.map_eq_some_iff]at hc
    obtain⟨l,hl,rfl⟩:=hc
    simp[eG]at hq;obtain⟨rfl,rfl⟩:=hq
    exact PJ E ho hh.1 hh.2 hl
   ·simp at hc
 ·rename_i ho
  split at hc
  ·rename_i e ht
   split at hc
   ·rename_i m z i h1 h2 h3
    split at hc
    ·rename_i hb
     simp only[Option.bind_eq_bind,Option.bind_eq_some_iff,Option.pure_def,Option.some.injEq]at hc
     obtain⟨l',h4,c',h5,rfl⟩:=hc
     simp only[eG,Option.map_eq_some_iff,Prod.mk.injEq]at hq
     obtain⟨⟨n,r⟩,hr,rfl,rfl⟩:=hq
     exact .inl (GM E ho ht h1 h2 h3 hb h4 h5 hr)
    ·simp at hc
   ·simp at hc
  ·simp at hc
 ·rename_i ho
  exact O4 ho hc hq S E
 ·rename_i ho
  split at hc
  ·rename_i dir e ht
   split at hc
   ·rename_i i hi
    split at hc
    ·rename_i hb
     simp only[Option.map_eq_some_iff]at hc
     obtain⟨x',hx,rfl⟩:=hc
     simp only[eG,Option.map_eq_some_iff,Prod.mk.injEq]at hq
     obtain⟨n,hn,rfl,rfl⟩:=hq
     exact .inr (.inr (OU E ho ht hi hb hx hn))
    ·cases hc
   ·cases hc
  ·cases hc
 ·simp only[Option.bind_eq_bind,Option.bind_eq_some_iff,Option.pure_def,Option.some.injEq]at hc
  obtain⟨x',_,y',_,rfl⟩:=hc
  simp[eG]at hq
 ·split at hc
  ·split at hc
   ·simp only[Option.map_eq_some_iff]at hc
    obtain⟨x',_,rfl⟩:=hc
    simp[eG]at hq
   ·cases hc
  ·cases hc
 ·rename_i ho
  split at hc
  ·rename_i m z hm
   simp only[Option.some.injEq]at hc
   subst hc
   simp only[eG,List.map_nil,bq,Option.some.injEq,Prod.mk.injEq]at hq
   obtain⟨rfl,rfl⟩:=hq
   exact .inr (.inl (RH ho))
  ·cases hc
 ·rename_i ho
  split at hc
  ·rename_i m z x' k' hm hx hk
   simp only[Option.some.injEq]at hc
   subst hc
   obtain⟨rfl,h⟩:=PH (id:=id) S E ho hm hx hk hq
   exact h
  ·cases hc
 ·split at hc
  ·simp only[Option.some.injEq]at hc
   subst hc
   simp[eG]at hq
  ·cases hc
 ·split at hc
  ·simp only[Option.some.injEq]at hc
   subst hc
   simp[eG]at hq
  ·cases hc
 ·simp only[Option.some.injEq]at hc
  subst hc
  simp[eG]at hq
 ·simp only[Option.some.injEq]at hc
  subst hc
  simp[eG]at hq
 ·simp at hc
end
end Go.Proofs.YtgoljkjaameagaaGreat.V

namespace Go.Proofs.YtgoljkjaameagaaGreat.V
open Go.RowKit
variable {P:Program} {w w':World} {D D':Nat->Prop} {ι ι':Names}
def kJ (ι:Names) (id:Id) (B:si):Names:=fun i=>if i=id then some B else ι i
theorem ep (ι:Names) (id:Id) (B:si):kJ ι id B id=some B:=if_pos rfl
theorem e6 {ι:Names} {id:Id} {B:si} (h:ι id=none):∀i B',ι i=some B'->kJ ι id B i=some B':=fun i B' hi=>by
 have:i≠id:=by rintro rfl;rw[h]at hi;cases hi
 rw[kJ,if_neg this];exact hi
theorem gp {ι:Names} {id i:Id} {B:si} (h:i≠id):kJ ι id B i=ι i:=if_neg h
section
variable {g:Rows} {hs:Nat} {env:Env} {a:Act} {o:Oper} {id:Id} {v:AV}
theorem lI.frame {B:si} {r:Row} (h:lI P w D ι B r) (hb:w'.heap[B.b]? =w.heap[B.b]?) (hr:∀a v,cW P w D ι a v->cW P w' D' ι' a v):lI P w' D' ι' B r:=
 ⟨h.sz,by obtain⟨c,T,h1,h2⟩:=h.xo;exact⟨c,T,hb.trans h1,h2⟩,h.fits,h.len,h.flat,fun i j cs a hi hj=>by
  obtain⟨v,h1,h2⟩:=h.at_ i j cs a hi hj
  exact⟨v,(World.cell?_of_block (a:=⟨B.b,i*r.sz+j,none⟩) hb).trans h1,hr _ _ h2⟩⟩
theorem gO.frame {B:si} {r:Row} (h:gO P w D ι B r) (hb:w'.heap[B.b]? =w.heap[B.b]?) (hr:∀a v,cW P w D ι a v->cW P w' D' ι' a v):gO P w' D' ι' B r:=
 ⟨h.sz,h.flat,fun hk=>(h.row hk).frame hb hr,fun m hm=>by
  obtain⟨h1,es,c,h2,h3,h5,h4⟩:=h.map m hm
  refine⟨h1,es,c,hb.trans h2,h3,h5,fun i cs hi=>?_⟩
  obtain⟨e,kv,vv,q1,q2,q3,q4,q5⟩:=h4 i cs hi
  exact⟨e,kv,vv,q1,q2,q3,hr _ _ q4,hr _ _ q5⟩,fun c hc=>by
  obtain⟨h1,buf,s,q,h2,h3,h4⟩:=h.chan c hc
  refine⟨h1,buf,s,q,hb.trans h2,h3,fun i cs hi=>?_⟩
  obtain⟨a,u,q1,q2,q3⟩:=h4 i cs hi
  exact⟨a,u,q1,q2,hr _ _ q3⟩⟩
theorem gw.kill (S:gw P hs D ι g w) (i:Id):gw P hs D ι (bP g i) w:=by
 refine⟨S.lo,S.dead,fun id r h=>?_,fun id j0 r r' B B' h h' hw hB dF hb=>?_⟩
 ·unfold bP at h;split at h
  ·cases h
  ·exact S.row id r h
 ·unfold bP at h h'
  split at h
  ·cases h
  ·split at h'
   ·cases h'
   ·exact S.inj id j0 r r' B B' h h' hw hB dF hb
theorem gw.sub {g':Rows} (S:gw P hs D ι g w) (h:∀id r,g' id=some r->g id=some r):gw P hs D ι g' w:=
 ⟨S.lo,S.dead,fun id r hr=>S.row id r (h id r hr),fun id j0 r r' B B' h1 h2=>S.inj id j0 r r' B B' (h _ _ h1) (h _ _ h2)⟩
theorem Av {hid:List Nat} {n:Nat} {g:Rows}:∀id r,fG hid n g id=some r->g id=some r:=fun id r h=>by
 cases hid with
 |nil=>exact h
 |cons a l=>
  have e:fG (a::l) n g id=if (a::l).contains id.site=true/\id.bY=n then none else g id:=rfl
  rw[e]at h
  by_cases hc:(a::l).contains id.site=true/\id.bY=n
  ·rw[if_pos hc]at h;cases h
  ·rw[if_neg hc]at h;exact h
theorem gw.stay (S:gw P hs D ι g w) (hb:∀b,b<w.heap.size->w'.heap[b]? =w.heap[b]?) (hz:w.heap.size<=w'.heap.size) (hD:∀b,D b->D' b) (hD':∀b,D' b->b<w'.heap.size) (km:∀b,D' b->D b∨w.heap.size<=b) (hι:∀id B,ι id=some B->ι' id=some B):gw P hs D' ι' g w':=by
 have hr:∀a v,cW P w D ι a v->cW P w' D' ι' a v:=fun a v h=>h.frame (fun b hd=>hb b (S.dead b hd)) hD hι
 have lt:∀{id r B},g id=some r->ι id=some B->B.b<w.heap.size:=fun {id r B} h hB=>by
  obtain⟨B',dF,R,_⟩:=S.row id r h
  rw[hB]at dF;injection dF with dF;subst dF
  exact R.lt
 refine⟨Nat.le_trans S.lo hz,hD',fun id r h=>?_,fun id j0 r r' B B' h h' hw hB dF he=>?_⟩
 ·obtain⟨B,hB,R,h1,h2⟩:=S.row id r h
  exact⟨B,hι _ _ hB,R.frame (hb _ (lt h hB)) hr,h1,fun hw hd=>by
   rcases km _ hd with hd|hd
   ·exact h2 hw hd
   ·have:=lt h hB;omega⟩
 ·obtain⟨C,hC,_⟩:=S.row id r h
  obtain⟨C',ue,_⟩:=S.row j0 r' h'
  have e1:=hι _ _ hC
  have e2:=hι _ _ ue
  rw[hB]at e1;injection e1 with e1;subst e1
  rw[dF]at e2;injection e2 with e2;subst e2
  exact S.inj id j0 r r' _ _ h h' hw hC ue he
theorem Step.stay (S:gw P hs D ι g w) (hb:∀b,b<w.heap.size->w'.heap[b]? =w.heap[b]?) (hz:w.heap.size<=w'.heap.size) (e1:w'.os=w.os) (e2:w'.tape=w.tape) (e3:w'.output=w.output) (hD:∀b,D b->D' b) (km:∀b,D' b->D b∨w.heap.size<=b) (hι:∀id B,ι id=some B->ι' id=some B):Step hs D ι w D' ι' w':=
 ⟨⟨e1,e2,e3,hz,fun k hk=>hb k (Nat.lt_of_lt_of_le hk S.lo)⟩,fun b hd=>hb b (S.dead b hd),hD,hι,fun b h=>(km b h).imp_right (Nat.le_trans S.lo)⟩
theorem gw.alloc (S:gw P hs D ι g w) {cells:Array Value} {T:TypeId} {r:Row} (hh:w'.heap=w.heap.push (.cells cells T (0,0))) (hn:ι id=none) (hw:r.w=true) (h1:r.rows.length*r.sz<=cells.size) (h2:∀cs∈r.rows,cs.length=r.sz) (h3:∀cs∈r.rows,∀a∈cs,a.cell=true)
  (h4:∀i j cs a,r.rows[i]? =some cs->cs[j]? =some a->∃x,cells[i*r.sz+j]? =some x/\cW P w D ι a x):gw P hs D (kJ ι id ⟨w.heap.size,r.sz,cells.size,none⟩) (br g id r) w':=by
 have hb:∀b,b<w.heap.size->w'.heap[b]? =w.heap[b]? :=fun b dJ=>by rw[hh,Array.getElem?_push,if_neg (by omega)]
 have hz:w.heap.size<=w'.heap.size:=by rw[hh];simp
 have S':=S.stay (D':=D) (ι':=kJ ι id ⟨w.heap.size,r.sz,cells.size,none⟩) hb hz (fun _ h=>h) (fun b hd=>Nat.lt_of_lt_of_le (S.dead b hd) hz) (fun _ h=>.inl h) (e6 hn)
 have hr:∀a v,cW P w D ι a v->cW P w' D (kJ ι id ⟨w.heap.size,r.sz,cells.size,none⟩) a v:=fun a v h=>h.frame (fun b hd=>hb b (S.dead b hd)) (fun _ h=>h) (e6 hn)
 have km:w'.heap[w.heap.size]? =some (.cells cells T (0,0)):=by rw[hh];simp
 have gone:g id=none:=by
  cases hg:g id with
  |none=>rfl
  |some q=>
   obtain⟨B,hB,_⟩:=S.row id q hg
   rw[hn]at hB;cases hB
 have lt:∀{i q B},g i=some q->ι i=some B->B.b<w.heap.size:=fun {i q B} h hB=>by
  obtain⟨B',dF,R,_⟩:=S.row i q h
  rw[hB]at dF;injection dF with dF;subst dF
  exact R.lt
 refine⟨S'.lo,S'.dead,fun i q h=>?_,fun i i' q q' B B' h h' IY hB dF he=>?_⟩
 ·unfold br at h
  split at h
  ·rename_i e
   subst e
   injection h with h;subst h
   refine⟨_,ep _ _ _,lI.obj ⟨rfl,⟨cells,T,km,rfl⟩,h1,h2,h3,fun k j cs a hk hj=>?_⟩ rfl,fun _=>S.lo,fun _ hd=>?_⟩
   ·obtain⟨x,hx,hrx⟩:=h4 k j cs a hk hj
    exact⟨x,by simp[World.cell?,km,hx],hr _ _ hrx⟩
   ·have:=S.dead _ hd;simp at this
  ·exact S'.row i q h
 ·unfold br at h h'
  split at h
  ·rename_i e
   split at h'
   ·rename_i e';exact e.trans e'.symm
   ·exfalso
    rename_i e'
    subst e
    rw[ep]at hB;injection hB with hB;subst hB
    rw[gp e']at dF
    have:=lt h' dF
    simp at he;omega
  ·rename_i e
   split at h'
   ·exfalso
    rename_i e'
    subst e'
    rw[ep]at dF;injection dF with dF;subst dF
    rw[gp e]at hB
    have:=lt h hB
    simp at he;omega
   ·exact S'.inj i i' q q' B B' h h' IY hB dF he
theorem gw.put (S:gw P hs D ι g w) {r r':Row} {B:si} {cur cur':Array Value} {T:TypeId} (hid:g id=some r) (hw:r.w=true) (hB:ι id=some B) (hblk:w.heap[B.b]? =some (.cells cur T (0,0))) (ft:cur'.size=cur.size)
  (h0:r'.w=true) (h1:r'.sz=r.sz) (h2:r'.rows.length*r'.sz<=B.C) (h3:∀cs∈r'.rows,cs.length=r'.sz) (h4:∀cs∈r'.rows,∀a∈cs,a.cell=true)
  (h5:∀i j cs a,r'.rows[i]? =some cs->cs[j]? =some a->∃v,cur'[i*r.sz+j]? =some v/\cW P w D ι a v):gw P hs D ι (br g id r') (w.setRow B.b cur')/\Step hs D ι w D ι (w.setRow B.b cur'):=by
 obtain⟨B0,Bt,RO,jZ,pr⟩:=S.row id r hid
 rw[hB]at Bt;injection Bt with Bt;subst Bt
 have lz:=RO.L0 hblk
 have R:=RO.row lz
 have hd:∀b,D b->(w.setRow B.b cur').heap[b]? =w.heap[b]? :=fun b hb=>setRow_other w B.b b cur' (by rintro rfl;exact pr hw hb)
 have hr:∀a v,cW P w D ι a v->cW P (w.setRow B.b cur') D ι a v:=fun a v h=>h.frame hd (fun _ h=>h) (fun _ _ h=>h)
 have hC:cur.size=B.C:=by
  obtain⟨c,T',h1,h2⟩:=R.xo
  rw[hblk]at h1;injection h1 with h1;injection h1 with h1 N0;subst h1;exact h2
 refine⟨⟨by simpa using S.lo,fun b hb=>by simpa using S.dead b hb,fun i q h=>?_,fun i i' q q' C C' h h' IY hC ue he=>?_⟩,⟨⟨by simp,by simp,by simp,by simp,fun k hk=>setRow_other w B.b k cur' (by have:=jZ hw;omega)⟩,hd,fun _ h=>h,fun _ _ h=>h,fun _ h=>.inl h⟩⟩
 ·unfold br at h
  split at h
  ·rename_i e
   subst e
   injection h with h;subst h
   refine⟨B,hB,lI.obj ⟨by rw[h1];exact R.sz,⟨cur',T,setRow_heap w B.b cur cur' T _ hblk,by rw[ft];exact hC⟩,h2,h3,h4,fun k j cs a hk hj=>?_⟩ lz,fun _=>jZ hw,fun _=>pr hw⟩
   obtain⟨v,hv,lP⟩:=h5 k j cs a hk hj
   exact⟨v,by rw[cell_setRow_same w B.b _ cur cur' T _ hblk,h1];exact hv,hr _ _ lP⟩
  ·rename_i e
   obtain⟨C,hC,RC,k1,k2⟩:=S.row i q h
   refine⟨C,hC,RC.frame (setRow_other w B.b C.b cur' (fun MS=>e ?_)) hr,k1,k2⟩
   exact(S.inj id i r q B C hid h hw hB hC MS.symm).symm
 ·unfold br at h h'
  have get:∀j p,(if j=id then some r' else g j)=some p->∃p0,g j=some p0/\(p.w=true->p0.w=true):=fun j p hp=>by
   split at hp
   ·rename_i e;subst e;injection hp with hp;subst hp;exact⟨r,hid,fun _=>hw⟩
   ·exact⟨p,hp,fun h=>h⟩
  obtain⟨p,hp,P7⟩:=get _ _ h
  obtain⟨p',OB,_⟩:=get _ _ h'
  exact S.inj i i' p p' C C' hp OB (P7 IY) hC ue he
theorem gw.rename (S:gw P hs D ι g w) {i:Id} {r:Row} {B:si} (hi:g i=some r) (hw:r.w=true) (hB:ι i=some B) (hn:ι id=none):gw P hs D (kJ ι id B) (br (bP g i) id r) w:=by
 have S':=S.stay (w':=w) (D':=D) (ι':=kJ ι id B) (fun _ _=>rfl) (Nat.le_refl _) (fun _ h=>h) S.dead (fun _ h=>.inl h) (e6 hn)
 have ik:i≠id:=by rintro rfl;rw[hn]at hB;cases hB
 obtain⟨B1,AH,R,k1,k2⟩:=S'.row i r hi
 rw[gp ik,hB]at AH;injection AH with AH;subst AH
 have get:∀j p,br (bP g i) id r j=some p->(j=id/\p=r)∨(j≠id/\j≠i/\g j=some p):=fun j p hp=>by
  unfold br bP at hp
  split at hp
  ·rename_i e;injection hp with hp;exact .inl ⟨e,hp.symm⟩
  ·rename_i e
   split at hp
   ·cases hp
   ·rename_i e';exact .inr ⟨e,e',hp⟩
 refine⟨S.lo,S.dead,fun j p h=>?_,fun j j' p p' C C' h h' P7 hC ue he=>?_⟩
 ·rcases get j p h with⟨rfl,rfl⟩|⟨_,_,hp⟩
  ·exact⟨B,ep _ _ _,R,k1,k2⟩
  ·exact S'.row j p hp
 ·rcases get j p h with⟨rfl,rfl⟩|⟨q1,q2,hp⟩
  ·rcases get j' p' h' with⟨rfl,rfl⟩|⟨q1',q2',OB⟩
   ·rfl
   ·exfalso
    rw[ep]at hC;injection hC with hC;subst hC
    rw[gp q1']at ue
    exact q2' (S.inj i j' p p' B C' hi OB hw hB ue he).symm
  ·rcases get j' p' h' with⟨rfl,rfl⟩|⟨q1',q2',OB⟩
   ·exfalso
    rw[ep]at ue;injection ue with ue;subst ue
    rw[gp q1]at hC
    exact q2 (S.inj j i p p' C B hp hi P7 hC hB he)
   ·rw[gp q1]at hC
    rw[gp q1']at ue
    exact S.inj j j' p p' C C' hp OB P7 hC ue he
def CO (P:Program) (hs:Nat) (a:Act) (o:Oper) (w:World) (D:Nat->Prop) (ι:Names) (id:Id) (v:AV) (g':Rows):Prop:=
 ∃u w' ι',((execOp a.eval o).run P w=.ok (.value u) w'∨(execOp a.eval o).run P w=.ok .skip w'/\u=undef)/\Step hs D ι w D ι' w'/\gw P hs D ι' g' w'/\cW P w' D ι' v u/\∀i,i≠id->ι' i=ι i
theorem Cd {xs:List AV} {vs:Array Value} (h:fA P w D ι xs vs) (hf:∀a∈xs,a.cell=true):∀v∈vs.toList,v.oneCell'=true:=by
 intro v hv
 obtain⟨j,hj,rfl⟩:=List.getElem_of_mem hv
 have KK:j<xs.length:=by rw[<-h.1];simpa using hj
 obtain⟨u,hu,hr⟩:=h.2 j _ (List.getElem?_eq_getElem KK)
 have hc:=hr.Bd (hf _ (List.getElem_mem KK))
 have:vs.toList[j]=u:=by
  have:vs.toList[j]? =some u:=by simpa using hu
  rw[List.getElem?_eq_getElem hj]at this;injection this
 rw[this]
 cases u<;>simp_all [Value.oneCell']
theorem jS {i j n m:Nat} (h:i<n) (hj:j<m):i*m+j<n*m:=by
 have:(i+1)*m<=n*m:=Nat.mul_le_mul_right _ h
 rw[Nat.add_mul,Nat.one_mul]at this;omega
theorem lI.cur {B:si} {r:Row} (R:lI P w D ι B r):∃cur T,w.heap[B.b]? =some (.cells cur T (0,0))/\cur.size=B.C/\∀i j cs a,r.rows[i]? =some cs->cs[j]? =some a->∃v,cur[i*r.sz+j]? =some v/\cW P w D ι a v:=by
 obtain⟨cur,T,h1,h2⟩:=R.xo
 refine⟨cur,T,h1,h2,fun i j cs a hi hj=>?_⟩
 obtain⟨v,hv,hr⟩:=R.at_ i j cs a hi hj
 exact⟨v,by simpa[World.cell?,h1]using hv,hr⟩
theorem Le {t:TypeId} {n:Nat} {x y:Operand} {x' y':O} {g':Rows} (S:gw P hs D ι g w) (E:ck P w D ι env a) (ho:o.op=.store t x y) (hn:er P t=some n) (hx:cO P x=some x') (hy:cO P y=some y')
  (hv:bE g n (cX env y') (cX env x')=some g'):CO P hs a o w D ι id .undef g':=by
 have rx:=dj E hx
 have ry:=dj E hy
 unfold bE at hv
 split at hv
 ·rename_i i k off hp
  rw[hp]at rx
  simp only[Option.bind_eq_some_iff]at hv
  obtain⟨r,hg,cs,dq,hv⟩:=hv
  split at hv
  ·rename_i hc
   obtain⟨c1,c2,c3,c4⟩:=hc
   simp at hv;subst hv
   obtain⟨B,he,hB,hk⟩:=iH rx
   obtain⟨B',dF,R,jZ,pr⟩:=S.row i r hg
   rw[hB]at dF;injection dF with dF;subst dF
   replace R:=R.row hk
   obtain⟨cur,T,hblk,hC,vN⟩:=R.cur
   have hL:=qM ry c3
   have h1:=Cd hL (List.all_eq_true.1 c3)
   have Rv:(a.eval y).cells.size=n:=by rw[hL.1,c2]
   have kq:=(List.getElem?_eq_some_iff.1 dq).1
   have hlen:=R.len cs (List.mem_of_getElem? dq)
   have hbound:k*r.sz+r.sz<=r.rows.length*r.sz:=by
    have:(k+1)*r.sz<=r.rows.length*r.sz:=Nat.mul_le_mul_right _ kq
    rwa [Nat.add_mul,Nat.one_mul]at this
   have hf:=R.fits
   have dK:=run_storeCells_at P B.b (k*B.sz+off) T (a.eval y).cells.toList 0 cur w hblk (by rw[R.sz];simp only[Array.length_toList];omega) h1
   simp only[Nat.add_zero,Array.length_toList]at dK
   have vV:=S.put (r':={r with rows:=r.rows.set k (cz cs off (cX env y').cells)}) hg c1 hB hblk (cur':=(cur.toList.take (k*B.sz+off)++(a.eval y).cells.toList++cur.toList.drop (k*B.sz+off+(a.eval y).cells.size)).toArray)
    (by rw[R.sz];simp;omega) c1 rfl (by simpa using R.fits) (fun c TZ=>by
     rcases List.mem_or_eq_of_mem_set TZ with h|rfl
     ·exact R.len c h
     ·simp[cz];omega) (fun c TZ b hb=>by
     rcases List.mem_or_eq_of_mem_set TZ with h|rfl
     ·exact R.flat c h b hb
     ·unfold cz at hb
      rcases List.mem_append.1 hb with hb|hb
      ·rcases List.mem_append.1 hb with hb|hb
       ·exact R.flat cs (List.mem_of_getElem? dq) b (List.mem_of_mem_take hb)
       ·exact List.all_eq_true.1 c3 b hb
      ·exact R.flat cs (List.mem_of_getElem? dq) b (List.mem_of_mem_drop hb)) (fun i2 j c b yg hj=>by
     rw[R.sz]
     simp only[List.getElem?_toArray]
     by_cases yh:i2=k
     ·subst yh
      rw[List.getElem?_set_self kq]at yg
      injection yg with yg;subst yg
      unfold cz at hj
      by_cases hjo:j<off
      ·rw[List.append_assoc,List.getElem?_append_left (by simp;omega),List.getElem?_take,if_pos hjo]at hj
       rw[List.append_assoc,List.getElem?_append_left (by simp;omega),List.getElem?_take,if_pos (by omega)]
       simpa using vN _ _ _ _ dq hj
      ·by_cases nR:j<off+n
       ·rw[List.append_assoc,List.getElem?_append_right (by simp;omega),List.getElem?_append_left (by simp;omega)]at hj
        rw[List.append_assoc,List.getElem?_append_right (by simp;omega),List.getElem?_append_left (by simp;omega)]
        simp only[List.length_take]at hj ⊢
        rw[show j-min off cs.length=j-off by omega]at hj
        rw[show i2*r.sz+j-min (i2*r.sz+off) cur.toList.length=j-off by simp;omega]
        simpa using hL.2 _ _ hj
       ·rw[List.getElem?_append_right (by simp;omega)]at hj
        rw[List.getElem?_append_right (by simp;omega)]
        simp only[List.length_append,List.length_take,List.getElem?_drop,Array.length_toList]at hj ⊢
        rw[show off+(cX env y').cells.length+(j-(min off cs.length+(cX env y').cells.length))=j by omega]at hj
        rw[show i2*r.sz+off+(a.eval y).cells.size+(i2*r.sz+j-(min (i2*r.sz+off) cur.size+(a.eval y).cells.size))=i2*r.sz+j by omega]
        simpa using vN _ _ _ _ dq hj
     ·rw[List.getElem?_set_ne (fun e=>yh e.symm)]at yg
      have hi2l:=(List.getElem?_eq_some_iff.1 yg).1
      have gP:j<r.sz:=by rw[<-R.len c (List.mem_of_getElem? yg)];exact(List.getElem?_eq_some_iff.1 hj).1
      have:=vN _ _ _ _ yg hj
      rcases Nat.lt_or_gt_of_ne yh with dJ|Lq
      ·have h2:i2*r.sz+j<k*r.sz:=jS dJ gP
       rw[List.append_assoc,List.getElem?_append_left (by simp;omega),List.getElem?_take,if_pos (by omega)]
       simpa using this
      ·have h2:k*r.sz+r.sz<=i2*r.sz:=by
        have:(k+1)*r.sz<=i2*r.sz:=Nat.mul_le_mul_right _ Lq
        rwa [Nat.add_mul,Nat.one_mul]at this
       rw[List.getElem?_append_right (by simp;omega)]
       simp only[List.length_append,List.length_take,List.getElem?_drop,Array.length_toList]
       rw[show k*r.sz+off+(a.eval y).cells.size+(i2*r.sz+j-(min (k*r.sz+off) cur.size+(a.eval y).cells.size))=i2*r.sz+j by omega]
       simpa using this)
   refine⟨undef,_,ι,.inr ⟨?_,rfl⟩,vV.2,vV.1,cW.undef,fun _ _=>rfl⟩
   simp only[execOp,ho,he,Instr.storeAt,Instr.sureAddr,storeVar,Sem.run_bind,Sem.run_pure,Result.andThen_ok,run_sizeOf hn,Rv,ne_eq,not_true_eq_false,if_false,dK]
  ·simp at hv
 ·simp at hv
end
end Go.Proofs.YtgoljkjaameagaaGreat.V

namespace Go.Proofs.YtgoljkjaameagaaGreat.V
open Go.RowKit
variable {P:Program} {w w':World} {D D':Nat->Prop} {ι ι':Names}
section
variable {g:Rows} {hs:Nat} {env:Env} {a:Act} {o:Oper} {id:Id} {v:AV}
theorem rX (S:gw P hs D ι g w) {y:AV} {u:Value} {ys:List (List AV)} {sz:Nat} (hr:cW P w D ι y u) (hy:bj g y=some ys) (hl:∀c∈ys,c.length=sz) (hf:∀c∈ys,∀b∈c,b.cell=true):
  ∃A c,u=.slice A ys.length c/\(ys=[]∨∃b o,∃news:List Value,A=some ⟨b,o,none⟩/\news.length=ys.length*sz/\(∀j v,news[j]? =some v->w.cell? ⟨b,o+j,none⟩=some v)/\fA P w D ι ys.flatten news.toArray/\∀v∈news,v.oneCell'=true):=by
 have fin:∀b o,ys≠[]->(∀i j cs x,ys[i]? =some cs->cs[j]? =some x->∃v,w.cell? ⟨b,o+(i*sz+j),none⟩=some v/\cW P w D ι x v)->
   ∃news:List Value,news.length=ys.length*sz/\(∀j v,news[j]? =some v->w.cell? ⟨b,o+j,none⟩=some v)/\fA P w D ι ys.flatten news.toArray/\∀v∈news,v.oneCell'=true:=by
  intro b o _ h
  have hlen:=Iv hl
  have at_:∀k,k<ys.length*sz->∃x,ys.flatten[k]? =some x/\∃v,w.cell? ⟨b,o+k,none⟩=some v/\cW P w D ι x v:=by
   intro k hk
   have kn:0<sz:=by
    rcases Nat.eq_zero_or_pos sz with h0|h0
    ·subst h0;simp at hk
    ·exact h0
   have hi:k / sz<ys.length:=Nat.div_lt_of_lt_mul (by rw[Nat.mul_comm];exact hk)
   have hj:k % sz<sz:=Nat.mod_lt _ kn
   have dq:=List.getElem?_eq_getElem hi
   have gP:k % sz<ys[k / sz].length:=by rw[hl _ (List.getElem_mem hi)];exact hj
   have hx:=List.getElem?_eq_getElem gP
   have e:k / sz*sz+k % sz=k:=by rw[Nat.mul_comm];exact Nat.div_add_mod _ _
   refine⟨_,by rw[<-flat_get hl dq hx,e],?_⟩
   obtain⟨v,hv,lP⟩:=h _ _ _ _ dq hx
   rw[e]at hv
   exact⟨v,hv,lP⟩
  let news:=(List.range (ys.length*sz)).map fun k=>(w.cell? ⟨b,o+k,none⟩).getD undef
  have hn:∀k,k<ys.length*sz->∀v,w.cell? ⟨b,o+k,none⟩=some v->news[k]? =some v:=fun k hk v hv=>by
   simp only[news,List.getElem?_map,List.getElem?_range hk,Option.map_some,hv,Option.getD_some]
  have hR:fA P w D ι ys.flatten news.toArray:=⟨by simp[news,hlen],fun j x hx=>by
   have gP:=(List.getElem?_eq_some_iff.1 hx).1
   rw[hlen]at gP
   obtain⟨x',tJ,v,hv,lP⟩:=at_ j gP
   rw[hx]at tJ;injection tJ with tJ;subst tJ
   exact⟨v,by simpa using hn j gP v hv,lP⟩⟩
  refine⟨news,by simp[news],fun j v hj=>?_,hR,?_⟩
  ·have gP:j<ys.length*sz:=by have:=(List.getElem?_eq_some_iff.1 hj).1;simpa[news]using this
   obtain⟨x,_,v',nU,_⟩:=at_ j gP
   rw[hn j gP v' nU]at hj
   injection hj with hj
   rw[<-hj];exact nU
  ·have:=Cd hR (fun x hx=>by
    obtain⟨c,hc,U0⟩:=List.mem_flatten.1 hx
    exact hf c hc x U0)
   simpa using this
 unfold bj at hy
 split at hy
 ·simp at hy;subst hy
  exact⟨none,0,kf hr,.inl rfl⟩
 ·rename_i rows
  simp at hy;subst hy
  obtain⟨A,c,he,_,_,h3⟩:=wK hr
  refine⟨A,c,he,?_⟩
  rcases h3 with h3|⟨b,oo,sz',vs,rfl,hD,KM,_,hc,hi⟩
  ·exact .inl h3
  ·by_cases h0:rows=[]
   ·exact .inl h0
   ·have BC:sz'=sz:=by
     cases rows with
     |nil=>exact(h0 rfl).elim
     |cons c r=>rw[<-KM c (by simp),hl c (by simp)]
    subst BC
    obtain⟨news,q1,q2,q3,q4⟩:=fin b oo h0 (fun i j cs x dq hx=>⟨_,hc i j (List.getElem?_eq_some_iff.1 dq).1 (by rw[<-KM cs (List.mem_of_getElem? dq)];exact(List.getElem?_eq_some_iff.1 hx).1),.eQ _ _ (hi i j cs x dq hx)⟩)
    exact .inr ⟨b,oo,news,rfl,q1,q2,q3,q4⟩
 ·rename_i i off len
  simp only[Option.bind_eq_some_iff]at hy
  obtain⟨r,hg,hy⟩:=hy
  split at hy
  ·rename_i hle
   simp at hy;subst hy
   obtain⟨oo,cap,B,he,hB,h1,h2,h3,h4,hk⟩:=iY hr
   obtain⟨B',dF,R,_,_⟩:=S.row i r hg
   rw[hB]at dF;injection dF with dF;subst dF
   replace R:=R.row hk
   have hlen:((r.rows.drop off).take len).length=len:=by simp;omega
   refine⟨some ⟨B.b,oo,none⟩,cap,by rw[hlen];exact he,?_⟩
   by_cases h0:(r.rows.drop off).take len=[]
   ·exact .inl h0
   ·have BC:r.sz=sz:=by
     cases hq:(r.rows.drop off).take len with
     |nil=>exact(h0 hq).elim
     |cons c q=>
      have hm:c∈(r.rows.drop off).take len:=by rw[hq];simp
      rw[<-hl c hm,R.len c (List.mem_of_mem_drop (List.mem_of_mem_take hm))]
    have hlp:0<len:=by rw[<-hlen];exact List.length_pos_iff.2 h0
    have Cz:oo=off*B.sz:=by rcases h2 with h2|h2<;>omega
    obtain⟨news,q1,q2,q3,q4⟩:=fin B.b oo h0 (fun i2 j cs x dq hx=>by
     rw[List.getElem?_take]at dq
     split at dq
     ·rw[List.getElem?_drop]at dq
      obtain⟨v,hv,lP⟩:=R.at_ _ _ _ _ dq hx
      refine⟨v,?_,lP⟩
      rw[Cz,R.sz,<-BC]
      rw[Nat.add_mul]at hv
      rw[<-Nat.add_assoc]
      exact hv
     ·simp at dq)
    exact .inr ⟨B.b,oo,news,rfl,q1,q2,q3,q4⟩
  ·simp at hy
 ·simp at hy
theorem oZ {t ty e:TypeId} {i:TypeInfo} (ht:P.underlying t=some (.slice e)) (hi:P.info? e=some i) (A:Option Addr) (n c:Nat) (hn:n<=c) (B:Option Addr) (d:Nat):
  (Builtin.append_ #[t,t] ty #[.slice A n c,.slice B 0 d]).run P w=.ok (.slice A n c) w:=by
 have hf:(Builtin.firstCells i.size 0 (.slice B 0 d)).run P w=.ok #[] w:=by
  cases B<;>simp[Builtin.firstCells,loadCells,loadCellsFrom]
 cases A with
 |none=>simp[Builtin.append_,run_underlying ht,sizeOf,typeInfo,hi,Builtin.lenOf,hn,hf]
 |some A=>simp[Builtin.append_,run_underlying ht,sizeOf,typeInfo,hi,Builtin.lenOf,hn,hf,storeCells]
theorem xJ {t ty e T:TypeId} {i:TypeInfo} (ht:P.underlying t=some (.slice e)) (hi:P.info? e=some i) (b r4 Ej:Nat) (cur:Array Value) (hg:w.heap[b]? =some (.cells cur T (0,0)))
  (x:Addr) (m c:Nat) (news:List Value) (hl:news.length=m*i.size) (Rf:∀j u,news[j]? =some u->w.cell? (x.add j)=some u) (h1:∀u∈news,u.oneCell'=true)
  (gx:r4+m<=Ej) (sM:r4*i.size+news.length<=cur.size):
  (Builtin.append_ #[t,t] ty #[.slice (some ⟨b,0,none⟩) r4 Ej,.slice (some x) m c]).run P w=
   .ok (.slice (some ⟨b,0,none⟩) (r4+m) Ej) (w.setRow b (cur.toList.take (r4*i.size)++news++cur.toList.drop (r4*i.size+news.length)).toArray):=by
 have hf:=run_firstCells_some (P:=P) w i.size m x m c news hl Rf
 have dK:=run_storeCells_at P b (r4*i.size) T news 0 cur w hg (by simpa using sM) h1
 simp only[Nat.add_zero]at dK
 simp[Builtin.append_,run_underlying ht,sizeOf,typeInfo,hi,Builtin.lenOf,gx,hf,ki,dK]
theorem Bs (w:World) (GO yL:Nat) (e:TypeId) (h:GO<=dp):GO<=grownCap w GO yL e/\grownCap w GO yL e<=maxLen:=by
 unfold dp at h
 simp only[grownCap,Question.cut,maxLen]
 have:=Nat.mod_lt (w.tape w.drawn (.appendCap GO yL e)) (show 0<2 ^ 63-GO by omega)
 omega
theorem fY {x y:Operand} {t:TypeId} {u:Value} (ho:o.op=.call {callee:=.builtin .append,args:= #[x,y],argTypes:= #[t,t]}) (h:(Builtin.append_ #[t,t] o.type #[a.eval x,a.eval y]).run P w=.ok u w'):(execOp a.eval o).run P w=.ok (.value u) w':=by
 simp only[execOp,ho,resolve,Sem.run_bind,Sem.run_pure,Result.andThen_ok,invoke,builtin]
 simp only[List.map_toArray,List.map_cons,List.map_nil]
 rw[h];rfl
theorem Cn {T:TypeId} (S:gw P hs D ι g w) (cells:Array Value) (hn:ι id=none) (B:si):Step hs D ι w D (kJ ι id B) (w.drew.alloc (.cells cells T)):=
 Step.stay S (fun k hk=>by show(w.heap.push _)[k]? = _;rw[Array.getElem?_push,if_neg (by omega)]) (by show _<=(w.heap.push _).size;simp) rfl rfl rfl (fun _ h=>h) (fun _ h=>.inl h) (e6 hn)
theorem Ii {x y:Operand} {x' y':O} {t e:TypeId} {m:Nat} {z:List K} {i:TypeInfo} {ys:List (List AV)} {g':Rows} (S:gw P hs D ι g w) (E:ck P w D ι env a) (hn:ι id=none) (ho:o.op=.call {callee:=.builtin .append,args:= #[x,y],argTypes:= #[t,t]})
  (ht:P.underlying t=some (.slice e)) (ft:er P e=some (m+1)) (hz:jK P e=some z) (hi:P.info? e=some i) (hby:i.bytes<=32768) (hx:cO P x=some x') (hy:cO P y=some y') (Fj:bj g (cX env y')=some ys)
  (hv:aT g id (m+1) (cX env x') ys=some (v,g')):CO P hs a o w D ι id v g':=by
 have rx:=dj E hx
 have ry:=dj E hy
 obtain⟨it,zv,mj,v7,Qh,hm,Fk⟩:=jY hz
 rw[hi]at mj;injection mj with mj;subst mj
 have jG:i.size=m+1:=by simpa[er,hi]using ft
 have fits:∀n,n<=dp->n*i.bytes<=140737488355328:=fun n h=>by
  unfold dp at h
  have:=Nat.mul_le_mul h hby
  omega
 have e63:∀n,n<=dp->(n:Int)<=9223372036854775807:=fun n h=>by unfold dp at h;omega
 have same:∀(w1:World) (cells:Array Value),w1=w.drew.alloc (.cells cells e)->w1.heap=w.heap.push (.cells cells e (0,0)):=fun w1 cells h=>by subst h;rfl
 have Qs:∀l:List (List AV),(l.all fun c=>c.length==m+1&&c.all AV.cell)=true->(∀c∈l,c.length=m+1)/\∀c∈l,∀b∈c,b.cell=true:=fun l h=>by
  rw[List.all_eq_true]at h
  refine⟨fun c hc=>?_,fun c hc b hb=>?_⟩
  ·have:=h c hc;simp at this;exact this.1
  ·have:=h c hc;simp at this;exact this.2 b hb
 unfold aT at hv
 split at hv
 ·rename_i hb
  rw[hb]at rx
  have ex:=kf rx
  split at hv
  ·simp at hv
   obtain⟨rfl,rfl⟩:=hv
   obtain⟨A,c,ey,_⟩:=rX (sz:=m+1) S ry Fj (fun c h=>by cases h) (fun c h=>by cases h)
   refine⟨_,w,ι,.inl (fY ho (by rw[ex,ey];exact oZ ht hi none 0 0 (Nat.le_refl _) A c)),Step.refl _ _ _ _,S,.eQ _ _ .cm,fun _ _=>rfl⟩
  ·rename_i y0 yr
   split at hv
   ·rename_i hc
    simp only[Option.some.injEq,Prod.mk.injEq]at hv
    obtain⟨rfl,rfl⟩:=hv
    obtain⟨hl,hf⟩:=Qs _ hc.2
    obtain⟨A,c,ey,h2⟩:=rX (sz:=m+1) S ry Fj hl hf
    rcases h2 with h2|⟨b,oo,news,rfl,q1,q2,q3,q4⟩
    ·cases h2
    have gi:=run_append_nil (P:=P) w t o.type e i zv ht hi v7 ⟨b,oo,none⟩ (y0::yr).length c news (by rw[jG];exact q1) (fun j v hj=>by rw[ki];exact q2 j v hj) (by simp) (e63 _ hc.1) (by have:=fits _ hc.1;omega)
    obtain⟨g1,g2⟩:=Bs w (y0::yr).length 0 e hc.1
    have dq:(news.toArray++Builtin.zeroCells zv.cells (grownCap w (y0::yr).length 0 e-(y0::yr).length)).size=grownCap w (y0::yr).length 0 e*(m+1):=by
     rw[Array.size_append,size_zeroCells,Qh,jG]
     simp only[List.size_toArray,q1]
     rw[<-Nat.add_mul];congr 1;omega
    have S1:=S.alloc (w':=w.drew.alloc (.cells (news.toArray++Builtin.zeroCells zv.cells (grownCap w (y0::yr).length 0 e-(y0::yr).length)) e)) (r:=⟨true,m+1,y0::yr⟩) rfl hn rfl (by rw[dq];exact Nat.mul_le_mul_right _ g1) hl hf
     (fun k j cs b2 hk hj=>by
      obtain⟨u,hu,xD⟩:=q3.2 _ _ (flat_get hl hk hj)
      refine⟨u,?_,xD⟩
      have dJ:=(Array.getElem?_eq_some_iff.1 hu).1
      dsimp only
      rw[Array.getElem?_append_left dJ];exact hu)
    have dK:=Cn (T:=e) S (news.toArray++Builtin.zeroCells zv.cells (grownCap w (y0::yr).length 0 e-(y0::yr).length)) hn ⟨w.heap.size,m+1,(news.toArray++Builtin.zeroCells zv.cells (grownCap w (y0::yr).length 0 e-(y0::yr).length)).size,none⟩
    refine⟨_,_,_,.inl (fY ho (by rw[ex,ey];exact gi)),dK,S1,?_,fun _ h=>gp h⟩
    refine .own _ _ _ _ _ _ (ep _ _ _) rfl g1 (.inr (by simp)) ?_ g2
    dsimp only;rw[dq];simp
   ·simp at hv
 ·rename_i i0 len hb
  rw[hb]at rx
  simp only[Option.bind_eq_some_iff]at hv
  obtain⟨r,hg,hv⟩:=hv
  split at hv
  ·rename_i hc
   obtain⟨c1,c2,c3,c4,c5⟩:=hc
   simp only[Option.some.injEq,Prod.mk.injEq]at hv
   obtain⟨rfl,rfl⟩:=hv
   obtain⟨hl,hf⟩:=Qs _ c5
   obtain⟨A,c,ey,h2⟩:=rX (sz:=m+1) S ry Fj hl hf
   obtain⟨oo,cap,B,ex,hB,h1,Cz,h3,h4,hk⟩:=iY rx
   obtain⟨B',dF,R,jZ,pr⟩:=S.row _ _ hg
   rw[hB]at dF;injection dF with dF;subst dF
   replace R:=R.row hk
   have Iy:B.sz=m+1:=R.sz.trans c2
   have zT:∀cs∈r.rows++ys,cs.length=m+1:=fun cs dq=>by
    rcases List.mem_append.1 dq with h|h
    ·rw[<-c2];exact R.len cs h
    ·exact hl cs h
   have MM:∀cs∈r.rows++ys,∀b∈cs,b.cell=true:=fun cs dq=>by
    rcases List.mem_append.1 dq with h|h
    ·exact R.flat cs h
    ·exact hf cs h
   rcases h2 with rfl|⟨yb,yo,news,rfl,q1,q2,q3,q4⟩
   ·have Gl:=S.rename hg c1 hB hn
    refine⟨_,w,kJ ι id B,.inl (fY ho (by rw[ex,ey];exact oZ ht hi _ _ _ h1 A c)),⟨Below.refl _ _,fun _ _=>rfl,fun _ h=>h,e6 hn,fun _ h=>.inl h⟩,?_,?_,fun _ h=>gp h⟩
    ·have:(⟨true,m+1,r.rows++[]⟩:Row)=r:=by cases r;simp_all
     rw[this];exact Gl
    ·simp only[List.length_nil,Nat.add_zero]
     exact .own _ _ _ _ _ B (ep _ _ _) hk h1 Cz h3 h4
   ·obtain⟨cur,T,hblk,hC,vN⟩:=R.cur
    by_cases gx:len+ys.length<=cap
    ·have SS:ys≠[]->oo=0:=fun h=>by
      rcases Cz with Cz|Cz
      ·have:=List.length_pos_iff.2 h;omega
      ·simpa using Cz
     by_cases hy0:ys=[]
     ·subst hy0
      have Gl:=S.rename hg c1 hB hn
      refine⟨_,w,kJ ι id B,.inl (fY ho (by rw[ex,ey];exact oZ ht hi _ _ _ h1 _ c)),⟨Below.refl _ _,fun _ _=>rfl,fun _ h=>h,e6 hn,fun _ h=>.inl h⟩,?_,?_,fun _ h=>gp h⟩
      ·have:(⟨true,m+1,r.rows++[]⟩:Row)=r:=by cases r;simp_all
       rw[this];exact Gl
      ·simp only[List.length_nil,Nat.add_zero]
       exact .own _ _ _ _ _ B (ep _ _ _) hk h1 Cz h3 h4
     have ho0:=SS hy0
     subst ho0
     have sM:len*i.size+news.length<=cur.size:=by
      rw[jG,q1,hC,<-Nat.add_mul]
      refine Nat.le_trans ?_ h3
      rw[Iy,Nat.zero_add]
      exact Nat.mul_le_mul_right _ gx
     have gi:=xJ (ty:=o.type) ht hi B.b len cap cur hblk ⟨yb,yo,none⟩ ys.length c news (by rw[jG];exact q1) (fun j v hj=>by rw[ki];exact q2 j v hj) q4 gx sM
     have ly:cur.toList.length=cur.size:=Array.length_toList
     simp only[jG]at gi sM
     obtain⟨P1,P2⟩:=S.put (r':=⟨true,m+1,r.rows++ys⟩) hg c1 hB hblk (cur':=(cur.toList.take (len*(m+1))++news++cur.toList.drop (len*(m+1)+news.length)).toArray) (by simp only[List.size_toArray,List.length_append,List.length_take,List.length_drop,ly];omega) rfl c2.symm
      (by dsimp only;rw[List.length_append,<-c3,<-Iy];refine Nat.le_trans (Nat.mul_le_mul_right _ gx) (Nat.le_trans (by simp) h3)) zT MM (fun k j cs b2 hk hj=>by
       simp only[List.getElem?_toArray]
       have gP:j<m+1:=by rw[<-zT cs (List.mem_of_getElem? hk)];exact(List.getElem?_eq_some_iff.1 hj).1
       rw[c2]
       by_cases kq:k<r.rows.length
       ·rw[List.getElem?_append_left kq]at hk
        have h2:k*(m+1)+j<len*(m+1):=jS (by omega) gP
        rw[List.append_assoc,List.getElem?_append_left (by simp only[List.length_take,ly];omega),List.getElem?_take,if_pos h2]
        have:=vN k j cs b2 hk hj
        rw[c2]at this;simpa using this
       ·rw[List.getElem?_append_right (by omega)]at hk
        have mC:=(List.getElem?_eq_some_iff.1 hk).1
        have pq:len*(m+1)<=k*(m+1):=Nat.mul_le_mul_right _ (by omega)
        have oK:k*(m+1)+j-len*(m+1)=(k-r.rows.length)*(m+1)+j:=by
         rw[<-c3,Nat.sub_mul];omega
        obtain⟨u,hu,xD⟩:=q3.2 _ _ (flat_get hl hk hj)
        refine⟨u,?_,xD⟩
        have Fg:news[(k-r.rows.length)*(m+1)+j]? =some u:=by simpa using hu
        have dJ:=(List.getElem?_eq_some_iff.1 Fg).1
        rw[List.append_assoc,List.getElem?_append_right (by simp only[List.length_take,ly];omega),List.getElem?_append_left (by simp only[List.length_take,ly];omega)]
        rw[<-Fg]
        congr 1
        simp only[List.length_take,ly]
        omega)
     have fh:br (bP (br g i0 ⟨true,m+1,r.rows++ys⟩) i0) id ⟨true,m+1,r.rows++ys⟩=br (bP g i0) id ⟨true,m+1,r.rows++ys⟩:=by
      funext q;simp only[br,bP]
      by_cases h:q=id<;>by_cases h':q=i0<;>simp[h,h']
     have Gl:=P1.rename (i:=i0) (id:=id) (r:=⟨true,m+1,r.rows++ys⟩) (by simp[br]) rfl hB hn
     rw[fh]at Gl
     refine⟨_,_,_,.inl (fY ho (by rw[ex,ey];exact gi)),P2.trans ⟨Below.refl _ _,fun _ _=>rfl,fun _ h=>h,e6 hn,fun _ h=>.inl h⟩,Gl,?_,fun _ h=>gp h⟩
     exact .own _ _ _ _ _ B (ep _ _ _) hk gx (.inr (by simp)) h3 h4
    ·
     have holds:∃ug:List Value,ug.length=len*(m+1)/\(∀j v,ug[j]? =some v->w.cell? ⟨B.b,oo+j,none⟩=some v)/\fA P w D ι r.rows.flatten ug.toArray:=by
      obtain⟨A2,c2',e2,h2⟩:=rX (sz:=m+1) (u:=.slice (some ⟨B.b,oo,none⟩) len cap) S (.own i0 0 len oo cap B hB hk h1 Cz h3 h4) (ys:=r.rows) (by simp[bj,hg,c3]) (fun cs h=>by rw[<-c2];exact R.len cs h) R.flat
      rcases h2 with h2|⟨b2,o2,ug,rfl,p1,p2,p3,_⟩
      ·refine⟨[],by simp[c3,h2],fun j v h=>by simp at h,by rw[h2];exact⟨rfl,fun j a h=>by simp at h⟩⟩
      ·injection e2 with e2 _ _
       injection e2 with e2
       injection e2 with e21 e22 _
       subst e21;subst e22
       exact⟨ug,by rw[p1,c3],p2,p3⟩
     obtain⟨ug,p1,p2,p3⟩:=holds
     have gi:=run_append_grow (P:=P) w t o.type e i zv ht hi v7 ⟨B.b,oo,none⟩ len cap ug (by rw[jG];exact p1) (fun j v hj=>by rw[ki];exact p2 j v hj) ⟨yb,yo,none⟩ ys.length c news (by rw[jG];exact q1) (fun j v hj=>by rw[ki];exact q2 j v hj) (by omega) (e63 _ c4) (growslice_fits (by omega) (fits _ c4))
     obtain⟨g1,g2⟩:=Bs w (len+ys.length) cap e c4
     have dq:(ug.toArray++news.toArray++Builtin.zeroCells zv.cells (grownCap w (len+ys.length) cap e-(len+ys.length))).size=grownCap w (len+ys.length) cap e*(m+1):=by
      rw[Array.size_append,Array.size_append,size_zeroCells,Qh,jG]
      simp only[List.size_toArray,q1,p1]
      rw[<-Nat.add_mul,<-Nat.add_mul];congr 1;omega
     have S1:=(S.kill i0).alloc (id:=id) (w':=w.drew.alloc (.cells (ug.toArray++news.toArray++Builtin.zeroCells zv.cells (grownCap w (len+ys.length) cap e-(len+ys.length))) e)) (r:=⟨true,m+1,r.rows++ys⟩) rfl hn rfl (by dsimp only;rw[dq,List.length_append,<-c3];exact Nat.mul_le_mul_right _ g1) zT MM
      (fun k j cs b2 hk hj=>by
       have Lo:=flat_get zT hk hj
       rw[List.flatten_append]at Lo
       have Lv:ug.length=r.rows.flatten.length:=by have:=p3.1;simpa using this
       dsimp only
       by_cases dJ:k*(m+1)+j<r.rows.flatten.length
       ·rw[List.getElem?_append_left dJ]at Lo
        obtain⟨u,hu,xD⟩:=p3.2 _ _ Lo
        refine⟨u,?_,xD⟩
        rw[Array.getElem?_append_left (by simp;omega),Array.getElem?_append_left (by simp;omega)];exact hu
       ·rw[List.getElem?_append_right (by omega)]at Lo
        obtain⟨u,hu,xD⟩:=q3.2 _ _ Lo
        refine⟨u,?_,xD⟩
        have Bz:=(Array.getElem?_eq_some_iff.1 hu).1
        simp only[List.size_toArray]at Bz
        rw[Array.getElem?_append_left (by simp;omega),Array.getElem?_append_right (by simp;omega)]
        simp only[List.size_toArray,Lv];exact hu)
     have dK:=Cn (T:=e) S (ug.toArray++news.toArray++Builtin.zeroCells zv.cells (grownCap w (len+ys.length) cap e-(len+ys.length))) hn ⟨w.heap.size,m+1,(ug.toArray++news.toArray++Builtin.zeroCells zv.cells (grownCap w (len+ys.length) cap e-(len+ys.length))).size,none⟩
     refine⟨_,_,_,.inl (fY ho (by rw[ex,ey];exact gi)),dK,S1,?_,fun _ h=>gp h⟩
     refine .own _ _ _ _ _ _ (ep _ _ _) rfl g1 (.inr (by simp)) ?_ g2
     dsimp only;rw[dq];simp
  ·simp at hv
 ·simp at hv
theorem lg {x:Operand} {t:TypeId} {u:Value} (ho:o.op=.call {callee:=.builtin .clear,args:= #[x],argTypes:= #[t]}) (h:(Builtin.clear_ #[t] o.type #[a.eval x]).run P w=.ok u w'):(execOp a.eval o).run P w=.ok (.value u) w':=by
 simp only[execOp,ho,resolve,Sem.run_bind,Sem.run_pure,Result.andThen_ok,invoke,builtin]
 simp only[List.map_toArray,List.map_cons,List.map_nil]
 rw[h];rfl
theorem Ld {x:Operand} {x':O} {t e:TypeId} {m:Nat} {z:List K} {g':Rows} (S:gw P hs D ι g w) (E:ck P w D ι env a) (ho:o.op=.call {callee:=.builtin .clear,args:= #[x],argTypes:= #[t]})
  (ht:P.underlying t=some (.slice e)) (ft:er P e=some (m+1)) (hz:jK P e=some z) (hx:cO P x=some x') (hv:bx g z (cX env x')=some g'):CO P hs a o w D ι id .undef g':=by
 have rx:=dj E hx
 obtain⟨it,zv,hi,v7,Qh,hm,Fk⟩:=jY hz
 have jG:it.size=m+1:=by simpa[er,hi]using ft
 unfold bx at hv
 split at hv
 ·rename_i hb
  rw[hb]at rx
  simp at hv;subst hv
  refine⟨undef,w,ι,.inl (lg ho (by rw[kf rx];simp only[Builtin.clear_,Sem.run_bind];simp[run_underlying ht,undef])),Step.refl _ _ _ _,S,cW.undef,fun _ _=>rfl⟩
 ·rename_i i off len hb
  rw[hb]at rx
  simp only[Option.bind_eq_some_iff]at hv
  obtain⟨r,hg,hv⟩:=hv
  split at hv
  ·rename_i hc
   obtain⟨c1,c2,c3⟩:=hc
   simp only[Option.some.injEq]at hv;subst hv
   obtain⟨oo,cap,B,ex,hB,h1,h2,h3,h4,hk⟩:=iY rx
   obtain⟨B',dF,R,jZ,pr⟩:=S.row _ _ hg
   rw[hB]at dF;injection dF with dF;subst dF
   replace R:=R.row hk
   obtain⟨cur,T,hblk,hC,vN⟩:=R.cur
   by_cases h0:len=0
   ·subst h0
    have e1:({r with rows:=r.rows.take off++List.replicate 0 (z.map K.av)++r.rows.drop (off+0)}:Row)=r:=by cases r;simp
    rw[e1]
    have e2:br g i r=g:=by
     funext q;unfold br;split
     ·rename_i h;rw[h,hg]
     ·rfl
    rw[e2]
    refine⟨undef,w,ι,.inl (lg ho (by rw[ex];simp only[Builtin.clear_,Sem.run_bind];simp[run_underlying ht,undef])),Step.refl _ _ _ _,S,cW.undef,fun _ _=>rfl⟩
   ·have CI:oo=off*B.sz:=by rcases h2 with h2|h2<;>omega
    have Iy:B.sz=m+1:=by rw[R.sz,c2,Fk,jG]
    have ym:r.sz=m+1:=by rw[<-R.sz,Iy]
    have RA:zv.cells.size=m+1:=by rw[Qh,jG]
    have yq:(Builtin.zeroCells zv.cells len).toList.length=len*(m+1):=by rw[Array.length_toList,size_zeroCells,RA]
    have Rz:∀k,k<len*(m+1)->∃c,z[k % z.length]? =some c/\(Builtin.zeroCells zv.cells len).toList[k]? =some c.val:=fun k hk=>by
     obtain⟨c,qa,Gf⟩:=pf (n:=len*zv.cells.size) hm (by rw[Fk,jG];omega) k (by rw[RA];exact hk)
     exact⟨c,qa,by rw[Array.getElem?_toList];exact Gf⟩
    have hbound:(off+len)*(m+1)<=r.rows.length*(m+1):=Nat.mul_le_mul_right _ c3
    have By:=R.fits
    rw[ym]at By
    have Ua:(off+len)*(m+1)=off*(m+1)+len*(m+1):=Nat.add_mul _ _ _
    have dK:=run_storeCells_at P B.b oo T (Builtin.zeroCells zv.cells len).toList 0 cur w hblk (by rw[yq,hC,CI,Iy];omega) (by
     intro v hv
     obtain⟨k,hk,rfl⟩:=List.getElem_of_mem hv
     obtain⟨c,_,Gf⟩:=Rz k (by rw[<-yq];exact hk)
     rw[List.getElem?_eq_getElem hk]at Gf
     injection Gf with Gf
     rw[Gf];cases c<;>rfl)
    simp only[Nat.add_zero]at dK
    have ly:cur.toList.length=cur.size:=Array.length_toList
    obtain⟨P1,P2⟩:=S.put (r':={r with rows:=r.rows.take off++List.replicate len (z.map K.av)++r.rows.drop (off+len)}) hg c1 hB hblk (cur':=(cur.toList.take oo++(Builtin.zeroCells zv.cells len).toList++cur.toList.drop (oo+(Builtin.zeroCells zv.cells len).toList.length)).toArray)
     (by simp only[List.size_toArray,List.length_append,List.length_take,List.length_drop,ly,yq];rw[CI,Iy];omega) c1 rfl (by
      have:(r.rows.take off++List.replicate len (z.map K.av)++r.rows.drop (off+len)).length=r.rows.length:=by simp;omega
      dsimp only;rw[this];exact R.fits) (fun cs dq=>by
      rcases List.mem_append.1 dq with h|h
      ·rcases List.mem_append.1 h with h|h
       ·exact R.len cs (List.mem_of_mem_take h)
       ·rw[List.eq_of_mem_replicate h];simp[c2]
      ·exact R.len cs (List.mem_of_mem_drop h)) (fun cs dq b hb=>by
      rcases List.mem_append.1 dq with h|h
      ·rcases List.mem_append.1 h with h|h
       ·exact R.flat cs (List.mem_of_mem_take h) b hb
       ·rw[List.eq_of_mem_replicate h]at hb
        obtain⟨c,_,rfl⟩:=List.mem_map.1 hb;exact c.nf
      ·exact R.flat cs (List.mem_of_mem_drop h) b hb) (fun k j cs b hk hj=>by
      simp only[List.getElem?_toArray]
      rw[ym]
      rw[CI,Iy,yq]
      by_cases sk:k<off
      ·rw[List.append_assoc,List.getElem?_append_left (by simp;omega),List.getElem?_take,if_pos sk]at hk
       have gP:j<m+1:=by rw[<-ym,<-R.len cs (List.mem_of_getElem? hk)];exact(List.getElem?_eq_some_iff.1 hj).1
       have h2:=jS sk gP
       rw[List.append_assoc,List.getElem?_append_left (by simp only[List.length_take,ly];omega),List.getElem?_take,if_pos h2]
       have:=vN k j cs b hk hj
       rw[ym]at this;simpa using this
      ·by_cases mC:k<off+len
       ·rw[List.append_assoc,List.getElem?_append_right (by simp;omega),List.getElem?_append_left (by simp;omega)]at hk
        have gN:=List.eq_of_mem_replicate (List.mem_of_getElem? hk)
        subst gN
        simp only[List.getElem?_map,Option.map_eq_some_iff]at hj
        obtain⟨q,hq,rfl⟩:=hj
        have gP:=(List.getElem?_eq_some_iff.1 hq).1
        rw[Fk,jG]at gP
        have pq:off*(m+1)<=k*(m+1):=Nat.mul_le_mul_right _ (by omega)
        have oK:k*(m+1)+j-off*(m+1)=(k-off)*(m+1)+j:=by rw[Nat.sub_mul];omega
        have Bz:(k-off)*(m+1)+j<len*(m+1):=jS (by omega) gP
        rw[List.append_assoc,List.getElem?_append_right (by simp only[List.length_take,ly];omega),List.getElem?_append_left (by simp only[List.length_take,ly,yq];omega)]
        obtain⟨c,qa,Gf⟩:=Rz _ Bz
        rw[Fk,jG,Nat.mul_comm (k-off),Nat.mul_add_mod,Nat.mod_eq_of_lt gP,hq]at qa
        injection qa with qa;subst qa
        refine⟨q.val,?_,wI q⟩
        rw[<-Gf]
        congr 1
        simp only[List.length_take,ly];omega
       ·rw[List.getElem?_append_right (by simp;omega)]at hk
        simp only[List.length_append,List.length_take,List.length_replicate,List.getElem?_drop]at hk
        rw[show off+len+(k-(min off r.rows.length+len))=k by omega]at hk
        have kq:=(List.getElem?_eq_some_iff.1 hk).1
        have pq:(off+len)*(m+1)<=k*(m+1):=Nat.mul_le_mul_right _ (by omega)
        rw[List.getElem?_append_right (by simp only[List.length_append,List.length_take,ly,yq];omega)]
        simp only[List.length_append,List.length_take,ly,yq,List.getElem?_drop]
        rw[show off*(m+1)+len*(m+1)+(k*(m+1)+j-(min (off*(m+1)) cur.size+len*(m+1)))=k*(m+1)+j by omega]
        have:=vN k j cs b hk hj
        rw[ym]at this;simpa using this)
    refine⟨undef,_,ι,.inl (lg ho ?_),P2,P1,cW.undef,fun _ _=>rfl⟩
    rw[ex]
    cases len with
    |zero=>exact(h0 rfl).elim
    |succ len=>
     simp only[Builtin.clear_,Sem.run_bind]
     simp[run_underlying ht,zeroValue,typeInfo,hi,v7,dK,undef]
  ·simp at hv
 ·simp at hv
theorem G6 {dT sT ty e:TypeId} {it:TypeInfo} (hu:P.underlying dT=some (.slice e)) (hi:P.info? e=some it) (A B:Option Addr) (r4 Ej F2 NP:Nat) (h0:Nat.min r4 F2=0):
  (Builtin.copy_ #[dT,sT] ty #[.slice A F2 NP,.slice B r4 Ej]).run P w=.ok (goInt 0) w:=by
 cases A<;>cases B<;>simp[Builtin.copy_,run_underlying hu,Builtin.lenOf,Builtin.firstCells,sizeOf,typeInfo,hi,h0,storeCells,loadCells,loadCellsFrom]
theorem G7 {dT sT ty e:TypeId} {it:TypeInfo} (hu:P.underlying dT=some (.slice e)) (hi:P.info? e=some it) (A B:Addr) (r4 Ej F2 NP:Nat) (cs:List Value) (hn:cs.length=Nat.min r4 F2*it.size) (hl:(loadCells B cs.length).run P w=.ok cs.toArray w) (hs:(storeCells A cs).run P w=.ok () w'):
  (Builtin.copy_ #[dT,sT] ty #[.slice (some A) F2 NP,.slice (some B) r4 Ej]).run P w=.ok (goInt (Nat.min r4 F2)) w':=by
 simp[Builtin.copy_,run_underlying hu,Builtin.lenOf,Builtin.firstCells,sizeOf,typeInfo,hi,<-hn,hl,hs]
theorem qe {x y:Operand} {t t2:TypeId} {u:Value} (ho:o.op=.call {callee:=.builtin .copy,args:= #[x,y],argTypes:= #[t,t2]}) (h:(Builtin.copy_ #[t,t2] o.type #[a.eval x,a.eval y]).run P w=.ok u w'):(execOp a.eval o).run P w=.ok (.value u) w':=by
 simp only[execOp,ho,resolve,Sem.run_bind,Sem.run_pure,Result.andThen_ok,invoke,builtin]
 simp only[List.map_toArray,List.map_cons,List.map_nil]
 rw[h];rfl
theorem NQ {x y:Operand} {x' y':O} {t t2 e:TypeId} {m:Nat} {ys:List (List AV)} {v:AV} {g':Rows} (S:gw P hs D ι g w) (E:ck P w D ι env a) (ho:o.op=.call {callee:=.builtin .copy,args:= #[x,y],argTypes:= #[t,t2]})
  (ht:P.underlying t=some (.slice e)) (ft:er P e=some (m+1)) (hx:cO P x=some x') (hy:cO P y=some y') (Fj:bj g (cX env y')=some ys) (hv:FE g (m+1) (cX env x') ys=some (v,g')):CO P hs a o w D ι id v g':=by
 have rx:=dj E hx
 have ry:=dj E hy
 obtain⟨it,hi,jG⟩:∃it,P.info? e=some it/\it.size=m+1:=by
  cases hq:P.info? e with
  |none=>simp[er,hq]at ft
  |some it=>exact⟨it,rfl,by simpa[er,hq]using ft⟩
 unfold FE at hv
 split at hv
 ·rename_i i off len hb
  rw[hb]at rx
  simp only[Option.bind_eq_some_iff]at hv
  obtain⟨r,hg,hv⟩:=hv
  split at hv
  ·rename_i hc
   obtain⟨c1,c2,c3,c4⟩:=hc
   simp only[Option.some.injEq,Prod.mk.injEq]at hv
   obtain⟨rfl,rfl⟩:=hv
   rw[List.all_eq_true]at c4
   have hl:∀c∈ys,c.length=m+1:=fun c hc=>by have:=c4 c hc;simp at this;exact this.1
   have hf:∀c∈ys,∀b∈c,b.cell=true:=fun c hc b hb=>by have:=c4 c hc;simp at this;exact this.2 b hb
   obtain⟨oo,cap,B,ex,hB,h1,h2,h3,h4,hk⟩:=iY rx
   obtain⟨B',dF,R,jZ,pr⟩:=S.row _ _ hg
   rw[hB]at dF;injection dF with dF;subst dF
   replace R:=R.row hk
   obtain⟨cur,T,hblk,hC,vN⟩:=R.cur
   obtain⟨A,sc,hu,hA⟩:=rX S ry Fj hl hf
   by_cases h0:min ys.length len=0
   ·rw[h0]
    have e1:({r with rows:=r.rows.take off++ys.take 0++r.rows.drop (off+0)}:Row)=r:=by cases r;simp
    rw[e1]
    have e2:br g i r=g:=by
     funext q;unfold br;split
     ·rename_i h;rw[h,hg]
     ·rfl
    rw[e2]
    refine⟨goInt 0,w,ι,.inl (qe ho (by rw[ex,hu];exact G6 ht hi _ _ _ _ _ _ h0)),Step.refl _ _ _ _,S,.eQ _ _ (.int _ _),fun _ _=>rfl⟩
   ·rcases hA with rfl|⟨b,o2,news,rfl,xz,hsrc,hR,h1c⟩
    ·simp at h0
    have Rc:Nat.min ys.length len=min ys.length len:=rfl
    have hky:min ys.length len<=ys.length:=Nat.min_le_left _ _
    have kq:min ys.length len<=len:=Nat.min_le_right _ _
    generalize hkk:min ys.length len=kk at *
    have hlen0:len≠0:=by omega
    have CI:oo=off*B.sz:=by rcases h2 with h2|h2<;>omega
    have Iy:B.sz=m+1:=by rw[R.sz,c2]
    have ym:r.sz=m+1:=c2
    have Oy:kk*(m+1)<=ys.length*(m+1):=Nat.mul_le_mul_right _ hky
    have yq:(news.take (kk*(m+1))).length=kk*(m+1):=by rw[List.length_take,xz];omega
    have hbound:(off+kk)*(m+1)<=r.rows.length*(m+1):=Nat.mul_le_mul_right _ (by omega)
    have By:=R.fits
    rw[ym]at By
    have Ua:(off+kk)*(m+1)=off*(m+1)+kk*(m+1):=Nat.add_mul _ _ _
    have dK:=run_storeCells_at P B.b oo T (news.take (kk*(m+1))) 0 cur w hblk (by rw[yq,hC,CI,Iy];omega) (fun v hv=>h1c v (List.mem_of_mem_take hv))
    have SL:=run_loadCells_list (P:=P) w ⟨b,o2,none⟩ (news.take (kk*(m+1))) (fun j v hj=>by
     rw[List.getElem?_take]at hj
     split at hj
     ·have:=hsrc j v hj
      cases j with
      |zero=>simpa[Addr.add]using this
      |succ j=>simpa[Addr.add]using this
     ·cases hj)
    simp only[Nat.add_zero]at dK
    have ly:cur.toList.length=cur.size:=Array.length_toList
    have OK:(ys.take kk).length=kk:=by rw[List.length_take];omega
    obtain⟨P1,P2⟩:=S.put (r':={r with rows:=r.rows.take off++ys.take kk++r.rows.drop (off+kk)}) hg c1 hB hblk (cur':=(cur.toList.take oo++news.take (kk*(m+1))++cur.toList.drop (oo+(news.take (kk*(m+1))).length)).toArray)
     (by simp only[List.size_toArray,List.length_append,List.length_drop,ly,yq];rw[List.length_take,ly,CI,Iy];omega) c1 rfl (by
      have:(r.rows.take off++ys.take kk++r.rows.drop (off+kk)).length=r.rows.length:=by simp;omega
      dsimp only;rw[this];exact R.fits) (fun cs dq=>by
      rcases List.mem_append.1 dq with h|h
      ·rcases List.mem_append.1 h with h|h
       ·exact R.len cs (List.mem_of_mem_take h)
       ·rw[hl cs (List.mem_of_mem_take h)];exact c2.symm
      ·exact R.len cs (List.mem_of_mem_drop h)) (fun cs dq b hb=>by
      rcases List.mem_append.1 dq with h|h
      ·rcases List.mem_append.1 h with h|h
       ·exact R.flat cs (List.mem_of_mem_take h) b hb
       ·exact hf cs (List.mem_of_mem_take h) b hb
      ·exact R.flat cs (List.mem_of_mem_drop h) b hb) (fun k j cs b hk hj=>by
      simp only[List.getElem?_toArray]
      rw[ym]
      rw[CI,Iy,yq]
      by_cases sk:k<off
      ·rw[List.append_assoc,List.getElem?_append_left (by simp;omega),List.getElem?_take,if_pos sk]at hk
       have gP:j<m+1:=by rw[<-ym,<-R.len cs (List.mem_of_getElem? hk)];exact(List.getElem?_eq_some_iff.1 hj).1
       have h2:=jS sk gP
       rw[List.append_assoc,List.getElem?_append_left (by simp only[List.length_take,ly];omega),List.getElem?_take,if_pos h2]
       have:=vN k j cs b hk hj
       rw[ym]at this;simpa using this
      ·by_cases mC:k<off+kk
       ·rw[List.append_assoc,List.getElem?_append_right (by simp;omega),List.getElem?_append_left (by simp;omega)]at hk
        simp only[List.length_take]at hk
        rw[show k-min off r.rows.length=k-off by omega,List.getElem?_take,if_pos (by omega)]at hk
        have gP:j<m+1:=by rw[<-hl cs (List.mem_of_getElem? hk)];exact(List.getElem?_eq_some_iff.1 hj).1
        have pq:off*(m+1)<=k*(m+1):=Nat.mul_le_mul_right _ (by omega)
        have oK:k*(m+1)+j-off*(m+1)=(k-off)*(m+1)+j:=by rw[Nat.sub_mul];omega
        have Bz:(k-off)*(m+1)+j<kk*(m+1):=jS (by omega) gP
        rw[List.append_assoc,List.getElem?_append_right (by simp only[List.length_take,ly];omega),List.getElem?_append_left (by rw[yq];simp only[List.length_take,ly];omega)]
        obtain⟨u,Rs,hu2⟩:=hR.2 ((k-off)*(m+1)+j) b (flat_get hl hk hj)
        refine⟨u,?_,hu2⟩
        rw[List.getElem?_take]
        simp only[List.length_take,ly]
        rw[show k*(m+1)+j-min (off*(m+1)) cur.size=(k-off)*(m+1)+j by omega,if_pos Bz]
        simpa using Rs
       ·rw[List.getElem?_append_right (by simp;omega)]at hk
        simp only[List.length_append,List.length_take,List.getElem?_drop]at hk
        rw[show off+kk+(k-(min off r.rows.length+min kk ys.length))=k by omega]at hk
        have kq:=(List.getElem?_eq_some_iff.1 hk).1
        have pq:(off+kk)*(m+1)<=k*(m+1):=Nat.mul_le_mul_right _ (by omega)
        rw[List.getElem?_append_right (by rw[List.length_append,yq];simp only[List.length_take,ly];omega)]
        rw[List.getElem?_drop,List.length_append,yq]
        simp only[List.length_take,ly]
        rw[show off*(m+1)+kk*(m+1)+(k*(m+1)+j-(min (off*(m+1)) cur.size+kk*(m+1)))=k*(m+1)+j by omega]
        have:=vN k j cs b hk hj
        rw[ym]at this;simpa using this)
    refine⟨goInt kk,_,ι,.inl (qe ho ?_),P2,P1,.eQ _ _ (.int _ _),fun _ _=>rfl⟩
    rw[ex,hu]
    have:=G7 (w:=w) (sT:=t2) (ty:=o.type) ht hi ⟨B.b,oo,none⟩ ⟨b,o2,none⟩ ys.length sc len cap _ (by rw[yq,Rc,jG]) SL dK
    rw[Rc]at this
    exact this
  ·simp at hv
 ·simp at hv
end
end Go.Proofs.YtgoljkjaameagaaGreat.V

namespace Go.Proofs.YtgoljkjaameagaaGreat.V
open Go.RowKit
variable {P:Program} {w w':World} {D D' D2:Nat->Prop} {ι ι' ι2:Names}
section
variable {g:Rows} {hs:Nat}
theorem gG:∀{n:Nat} {l r:List AV},dc g n l=some r->r.length=l.length/\∀(j:Nat) (b:AV),r[j]? =some b->∃a,l[j]? =some a/\fz g n a=some b
 |n,[],r,h=>by
  rw[dc]at h;simp at h;subst h;simp
 |n,a::l,r,h=>by
  rw[dc]at h
  split at h
  ·rename_i b hb
   simp only[Option.map_eq_some_iff]at h
   obtain⟨r',hr,rfl⟩:=h
   obtain⟨h1,h2⟩:=gG hr
   refine⟨by simp[h1],fun j c hj=>?_⟩
   cases j with
   |zero=>simp at hj;subst hj;exact⟨a,rfl,hb⟩
   |succ j=>simp at hj ⊢;exact h2 j c hj
  ·simp at h
theorem vK:∀{n:Nat} {l r:List (List AV)},ev g n l=some r->r.length=l.length/\∀(j:Nat) (b:List AV),r[j]? =some b->∃a,l[j]? =some a/\dc g n a=some b
 |n,[],r,h=>by
  rw[ev]at h;simp at h;subst h;simp
 |n,a::l,r,h=>by
  rw[ev]at h
  split at h
  ·rename_i b hb
   simp only[Option.map_eq_some_iff]at h
   obtain⟨r',hr,rfl⟩:=h
   obtain⟨h1,h2⟩:=vK hr
   refine⟨by simp[h1],fun j c hj=>?_⟩
   cases j with
   |zero=>simp at hj;subst hj;exact⟨a,rfl,hb⟩
   |succ j=>simp at hj ⊢;exact h2 j c hj
  ·simp at h
theorem rD (hD:∀b,D b->D2 b) (xo:∀id row,g id=some row->row.w=true->∃B,ι id=some B/\gO P w D ι B row/\D2 B.b):∀(n:Nat) (a:AV) (u:Value) (r:AV),cW P w D ι a u->fz g n a=some r->cW P w D2 ι2 r u/\(a.cell=true->jD P w D2 r u/\r.cell=true):=by
 intro n
 induction n with
 |zero=>intro a u r _ h;rw[fz]at h;simp at h
 |succ n ih=>
  intro a u r hr h
  have both:∀{r:AV},jD P w D2 r u->r.cell=true->cW P w D2 ι2 r u/\(a.cell=true->jD P w D2 r u/\r.cell=true):=fun h1 h2=>⟨.eQ _ _ h1,fun _=>⟨h1,h2⟩⟩
  cases a with
  |map id m=>rw[fz]at h;cases h
  |rl id=>rw[fz]at h;cases h
  |own id off len=>
   rw[fz]at h
   split at h
   ·rename_i row hg
    split at h
    ·rename_i hw
     split at h
     ·rename_i hle
      simp only[Option.map_eq_some_iff]at h
      obtain⟨rows,oJ,rfl⟩:=h
      obtain⟨B,hB,R,N4⟩:=xo id row hg hw
      obtain⟨o,cap,B',rfl,dF,h1,h2,h3,h4,hk⟩:=iY hr
      rw[hB]at dF;injection dF with dF;subst dF
      replace R:=R.row hk
      obtain⟨l1,l2⟩:=vK oJ
      have hlen:rows.length=len:=by rw[l1];simp;omega
      by_cases h0:rows=[]
      ·subst h0
       simp at hlen;subst hlen
       exact both (.AL _ _ h4) rfl
      ·have hlp:0<len:=by rw[<-hlen];exact List.length_pos_iff.2 h0
       have ho:o=off*B.sz:=by rcases h2 with h2|h2<;>omega
       have src:∀i cs,rows[i]? =some cs->∃c0,row.rows[off+i]? =some c0/\dc g n c0=some cs:=fun i cs hi=>by
        obtain⟨c0,jL,hf⟩:=l2 i cs hi
        rw[List.getElem?_take]at jL
        split at jL
        ·rw[List.getElem?_drop]at jL;exact⟨c0,jL,hf⟩
        ·simp at jL
       have cell:∀i j,i<len->j<row.sz->∃c0 a0 v,row.rows[off+i]? =some c0/\c0[j]? =some a0/\w.cell? ⟨B.b,o+(i*row.sz+j),none⟩=some v/\cW P w D ι a0 v:=fun i j hi hj=>by
        have mj:off+i<row.rows.length:=by omega
        have e1:=List.getElem?_eq_getElem mj
        have KK:j<row.rows[off+i].length:=by rw[R.len _ (List.getElem_mem mj)];exact hj
        obtain⟨v,hv,lP⟩:=R.at_ _ _ _ _ e1 (List.getElem?_eq_getElem KK)
        refine⟨_,_,v,e1,List.getElem?_eq_getElem KK,?_,lP⟩
        rw[ho,R.sz,<-hv]
        congr 2
        rw[Nat.add_mul];omega
       refine both (.sl rows B.b o len cap row.sz (fun i j=>(w.cell? ⟨B.b,o+(i*row.sz+j),none⟩).getD undef) hlen h1 h4 N4 (fun cs dq=>?_) (fun cs dq b hb=>?_) (fun i j hi hj=>?_) (fun i j cs b hi hj=>?_)) rfl
       ·obtain⟨i,hi,rfl⟩:=List.getElem_of_mem dq
        obtain⟨c0,jL,hf⟩:=src i _ (List.getElem?_eq_getElem hi)
        rw[(gG hf).1];exact R.len c0 (List.mem_of_getElem? jL)
       ·obtain⟨i,hi,rfl⟩:=List.getElem_of_mem dq
        obtain⟨c0,jL,hf⟩:=src i _ (List.getElem?_eq_getElem hi)
        obtain⟨j,hj,rfl⟩:=List.getElem_of_mem hb
        obtain⟨a0,lu,IG⟩:=(gG hf).2 j _ (List.getElem?_eq_getElem hj)
        obtain⟨v,_,lP⟩:=R.at_ _ _ _ _ jL lu
        exact((ih _ _ _ lP IG).2 (R.flat c0 (List.mem_of_getElem? jL) a0 (List.mem_of_getElem? lu))).2
       ·obtain⟨c0,a0,v,_,_,hv,_⟩:=cell i j hi hj
        simp only[hv,Option.getD_some]
       ·obtain⟨c0,jL,hf⟩:=src i cs hi
        obtain⟨a0,lu,IG⟩:=(gG hf).2 j b hj
        have lO:i<len:=by rw[<-hlen];exact(List.getElem?_eq_some_iff.1 hi).1
        have gP:j<row.sz:=by rw[<-R.len c0 (List.mem_of_getElem? jL)];exact(List.getElem?_eq_some_iff.1 lu).1
        obtain⟨c1,a1,v,e1,e2,hv,lP⟩:=cell i j lO gP
        rw[jL]at e1;injection e1 with e1;subst e1
        rw[lu]at e2;injection e2 with e2;subst e2
        simp only[hv,Option.getD_some]
        exact((ih _ _ _ lP IG).2 (R.flat c0 (List.mem_of_getElem? jL) a0 (List.mem_of_getElem? lu))).1
     ·simp at h
    ·simp at h
   ·simp at h
  |ptr id i off=>
   rw[fz]at h
   split at h
   ·rename_i row hg
    split at h
    ·rename_i hw
     split at h
     ·rename_i c0 jL
      simp only[Option.map_eq_some_iff]at h
      obtain⟨cs,dq,rfl⟩:=h
      obtain⟨B,hB,R,N4⟩:=xo id row hg hw
      obtain⟨B',rfl,dF,hk⟩:=iH hr
      rw[hB]at dF;injection dF with dF;subst dF
      replace R:=R.row hk
      obtain⟨l1,l2⟩:=gG dq
      have at_:∀j b,cs[j]? =some b->∃a0 v,w.cell? ⟨B.b,i*B.sz+off+j,none⟩=some v/\cW P w D ι a0 v/\a0.cell=true/\fz g n a0=some b:=fun j b hj=>by
       obtain⟨a0,lu,hf⟩:=l2 j b hj
       rw[List.getElem?_drop]at lu
       obtain⟨v,hv,lP⟩:=R.at_ _ _ _ _ jL lu
       refine⟨a0,v,?_,lP,R.flat c0 (List.mem_of_getElem? jL) a0 (List.mem_of_getElem? lu),hf⟩
       rw[R.sz,Nat.add_assoc];exact hv
      refine both (.cR cs B.b _ (fun j=>(w.cell? ⟨B.b,i*B.sz+off+j,none⟩).getD undef) N4 (fun b hb=>?_) (fun j hj=>?_) (fun j b hj=>?_)) rfl
      ·obtain⟨j,hj,rfl⟩:=List.getElem_of_mem hb
       obtain⟨a0,v,_,lP,hc,hf⟩:=at_ j _ (List.getElem?_eq_getElem hj)
       exact((ih _ _ _ lP hf).2 hc).2
      ·obtain⟨a0,v,hv,_⟩:=at_ j _ (List.getElem?_eq_getElem hj)
       simp only[hv,Option.getD_some]
      ·obtain⟨a0,v,hv,lP,hc,hf⟩:=at_ j b hj
       simp only[hv,Option.getD_some]
       exact((ih _ _ _ lP hf).2 hc).1
     ·simp at h
    ·simp at h
   ·simp at h
  |agg cs=>
   rw[fz]at h
   simp only[Option.map_eq_some_iff]at h
   obtain⟨r',nY,rfl⟩:=h
   obtain⟨vs,f,rfl,h1,h2,h3,h4⟩:=iX hr
   obtain⟨l1,l2⟩:=gG nY
   have hI:jD P w D2 (.agg r') (.agg vs):=.agg r' vs f (by rw[h1,l1]) (fun b hb=>by
    obtain⟨j,hj,rfl⟩:=List.getElem_of_mem hb
    obtain⟨a0,lu,hf⟩:=l2 j _ (List.getElem?_eq_getElem hj)
    exact((ih _ _ _ (h4 j a0 lu) hf).2 (h2 a0 (List.mem_of_getElem? lu))).2) (fun j hj=>h3 j (by rw[<-l1];exact hj)) (fun j b hj=>by
    obtain⟨a0,lu,hf⟩:=l2 j b hj
    exact((ih _ _ _ (h4 j a0 lu) hf).2 (h2 a0 (List.mem_of_getElem? lu))).1)
   exact⟨.eQ _ _ hI,fun hc=>by simp[AV.cell]at hc⟩
  |gy cs=>
   rw[fz]at h
   simp only[Option.map_eq_some_iff]at h
   obtain⟨r',nY,rfl⟩:=h
   obtain⟨vs,f,rfl,h1,h3,h4⟩:=uI hr
   obtain⟨l1,l2⟩:=gG nY
   exact⟨.gy r' vs f (by rw[h1,l1]) (fun j hj=>h3 j (by rw[<-l1];exact hj)) (fun j b hj=>by
    obtain⟨a0,lu,hf⟩:=l2 j b hj
    exact(ih _ _ _ (h4 j a0 lu) hf).1),fun hc=>by simp[AV.cell]at hc⟩
  |fn f da=>
   rw[fz]at h
   split at h
   ·rename_i dG
    simp only[Option.map_eq_some_iff]at h
    obtain⟨r',nY,rfl⟩:=h
    obtain⟨vs,q,rfl,h0,h1,h3,h4⟩:=Aa hr
    obtain⟨l1,l2⟩:=gG nY
    exact both (.fn f r' vs q h0 (by rw[h1,l1]) (fun j hj=>h3 j (by rw[<-l1];exact hj)) (fun j b hj=>by
     obtain⟨a0,lu,hf⟩:=l2 j b hj
     exact((ih _ _ _ (h4 j a0 lu) hf).2 (List.all_eq_true.1 dG a0 (List.mem_of_getElem? lu))).1)) rfl
   ·simp at h
  |int k m=>rw[fz]at h<;>(try simp at h)<;>(try subst h)<;>(try(rw[du hr];exact⟨.eQ _ _ (.int _ _),fun _=>⟨.int _ _,rfl⟩⟩))<;>(try(intros;simp_all))
  |bool b=>rw[fz]at h<;>(try simp at h)<;>(try subst h)<;>(try(rw[e5 hr];exact⟨.eQ _ _ (.bool _),fun _=>⟨.bool _,rfl⟩⟩))<;>(try(intros;simp_all))
  |str b=>rw[fz]at h<;>(try simp at h)<;>(try subst h)<;>(try(rw[fE hr];exact⟨.eQ _ _ (.str _),fun _=>⟨.str _,rfl⟩⟩))<;>(try(intros;simp_all))
  |cm=>rw[fz]at h<;>(try simp at h)<;>(try subst h)<;>(try(rw[kf hr];exact⟨.eQ _ _ .cm,fun _=>⟨.cm,rfl⟩⟩))<;>(try(intros;simp_all))
  |jd=>rw[fz]at h<;>(try simp at h)<;>(try subst h)<;>(try(rw[wJ hr];exact⟨.eQ _ _ .jd,fun _=>⟨.jd,rfl⟩⟩))<;>(try(intros;simp_all))
  |jl=>rw[fz]at h<;>(try simp at h)<;>(try subst h)<;>(try(rw[Cg hr];exact⟨.eQ _ _ .jl,fun _=>⟨.jl,rfl⟩⟩))<;>(try(intros;simp_all))
  |tN f da=>rw[fz]at h<;>(try simp at h)<;>(try(intros;simp_all))
  |gT=>rw[fz]at h<;>(try simp at h)<;>(try subst h)<;>(try(cases hr with|eQ _ _ hr=>exact both (hr.frame (fun _ _=>rfl) hD) rfl))<;>(try(intros;simp_all))
  |sl rows=>rw[fz]at h<;>(try simp at h)<;>(try subst h)<;>(try(cases hr with|eQ _ _ hr=>exact both (hr.frame (fun _ _=>rfl) hD) rfl))<;>(try(intros;simp_all))
  |cR cs=>rw[fz]at h<;>(try simp at h)<;>(try subst h)<;>(try(cases hr with|eQ _ _ hr=>exact both (hr.frame (fun _ _=>rfl) hD) rfl))<;>(try(intros;simp_all))
theorem ja:∀{n:Nat} {l r:List AV},eA g n l=some r->r.length=l.length/\∀(j:Nat) (b:AV),r[j]? =some b->∃a,l[j]? =some a/\gD g n a=some b
 |n,[],r,h=>by
  rw[eA]at h;simp at h;subst h;simp
 |n,a::l,r,h=>by
  rw[eA]at h
  split at h
  ·rename_i b hb
   simp only[Option.map_eq_some_iff]at h
   obtain⟨r',hr,rfl⟩:=h
   obtain⟨h1,h2⟩:=ja hr
   refine⟨by simp[h1],fun j c hj=>?_⟩
   cases j with
   |zero=>simp at hj;subst hj;exact⟨a,rfl,hb⟩
   |succ j=>simp at hj ⊢;exact h2 j c hj
  ·simp at h
theorem tE:∀{n:Nat} {l r:List (List AV)},iu g n l=some r->r.length=l.length/\∀(j:Nat) (b:List AV),r[j]? =some b->∃a,l[j]? =some a/\eA g n a=some b
 |n,[],r,h=>by
  rw[iu]at h;simp at h;subst h;simp
 |n,a::l,r,h=>by
  rw[iu]at h
  split at h
  ·rename_i b hb
   simp only[Option.map_eq_some_iff]at h
   obtain⟨r',hr,rfl⟩:=h
   obtain⟨h1,h2⟩:=tE hr
   refine⟨by simp[h1],fun j c hj=>?_⟩
   cases j with
   |zero=>simp at hj;subst hj;exact⟨a,rfl,hb⟩
   |succ j=>simp at hj ⊢;exact h2 j c hj
  ·simp at h
theorem Gc (xo:∀id row,g id=some row->row.w=true->∃B,ι id=some B/\gO P w D ι B row/\D2 B.b):∀(n:Nat) (a:AV) (u:Value) (r:AV),cW P w D ι a u->gD g n a=some r->cW P w D2 ι2 r u/\(a.cell=true->jD P w D2 r u/\r.cell=true):=by
 intro n
 induction n with
 |zero=>intro a u r _ h;rw[gD]at h;simp at h
 |succ n ih=>
  intro a u r hr h
  have both:∀{r:AV},jD P w D2 r u->r.cell=true->cW P w D2 ι2 r u/\(a.cell=true->jD P w D2 r u/\r.cell=true):=fun h1 h2=>⟨.eQ _ _ h1,fun _=>⟨h1,h2⟩⟩
  cases a with
  |map id m=>rw[gD]at h<;>simp_all
  |rl id=>rw[gD]at h<;>simp_all
  |own id off len=>
   rw[gD]at h
   split at h
   ·rename_i row hg
    split at h
    ·rename_i hw
     split at h
     ·rename_i hle
      simp only[Option.map_eq_some_iff]at h
      obtain⟨rows,oJ,rfl⟩:=h
      obtain⟨B,hB,R,N4⟩:=xo id row hg hw
      obtain⟨o,cap,B',rfl,dF,h1,h2,h3,h4,hk⟩:=iY hr
      rw[hB]at dF;injection dF with dF;subst dF
      replace R:=R.row hk
      obtain⟨l1,l2⟩:=tE oJ
      have hlen:rows.length=len:=by rw[l1];simp;omega
      by_cases h0:rows=[]
      ·subst h0
       simp at hlen;subst hlen
       exact both (.AL _ _ h4) rfl
      ·have hlp:0<len:=by rw[<-hlen];exact List.length_pos_iff.2 h0
       have ho:o=off*B.sz:=by rcases h2 with h2|h2<;>omega
       have src:∀i cs,rows[i]? =some cs->∃c0,row.rows[off+i]? =some c0/\eA g n c0=some cs:=fun i cs hi=>by
        obtain⟨c0,jL,hf⟩:=l2 i cs hi
        rw[List.getElem?_take]at jL
        split at jL
        ·rw[List.getElem?_drop]at jL;exact⟨c0,jL,hf⟩
        ·simp at jL
       have cell:∀i j,i<len->j<row.sz->∃c0 a0 v,row.rows[off+i]? =some c0/\c0[j]? =some a0/\w.cell? ⟨B.b,o+(i*row.sz+j),none⟩=some v/\cW P w D ι a0 v:=fun i j hi hj=>by
        have mj:off+i<row.rows.length:=by omega
        have e1:=List.getElem?_eq_getElem mj
        have KK:j<row.rows[off+i].length:=by rw[R.len _ (List.getElem_mem mj)];exact hj
        obtain⟨v,hv,lP⟩:=R.at_ _ _ _ _ e1 (List.getElem?_eq_getElem KK)
        refine⟨_,_,v,e1,List.getElem?_eq_getElem KK,?_,lP⟩
        rw[ho,R.sz,<-hv]
        congr 2
        rw[Nat.add_mul];omega
       refine both (.sl rows B.b o len cap row.sz (fun i j=>(w.cell? ⟨B.b,o+(i*row.sz+j),none⟩).getD undef) hlen h1 h4 N4 (fun cs dq=>?_) (fun cs dq b hb=>?_) (fun i j hi hj=>?_) (fun i j cs b hi hj=>?_)) rfl
       ·obtain⟨i,hi,rfl⟩:=List.getElem_of_mem dq
        obtain⟨c0,jL,hf⟩:=src i _ (List.getElem?_eq_getElem hi)
        rw[(ja hf).1];exact R.len c0 (List.mem_of_getElem? jL)
       ·obtain⟨i,hi,rfl⟩:=List.getElem_of_mem dq
        obtain⟨c0,jL,hf⟩:=src i _ (List.getElem?_eq_getElem hi)
        obtain⟨j,hj,rfl⟩:=List.getElem_of_mem hb
        obtain⟨a0,lu,IG⟩:=(ja hf).2 j _ (List.getElem?_eq_getElem hj)
        obtain⟨v,_,lP⟩:=R.at_ _ _ _ _ jL lu
        exact((ih _ _ _ lP IG).2 (R.flat c0 (List.mem_of_getElem? jL) a0 (List.mem_of_getElem? lu))).2
       ·obtain⟨c0,a0,v,_,_,hv,_⟩:=cell i j hi hj
        simp only[hv,Option.getD_some]
       ·obtain⟨c0,jL,hf⟩:=src i cs hi
        obtain⟨a0,lu,IG⟩:=(ja hf).2 j b hj
        have lO:i<len:=by rw[<-hlen];exact(List.getElem?_eq_some_iff.1 hi).1
        have gP:j<row.sz:=by rw[<-R.len c0 (List.mem_of_getElem? jL)];exact(List.getElem?_eq_some_iff.1 lu).1
        obtain⟨c1,a1,v,e1,e2,hv,lP⟩:=cell i j lO gP
        rw[jL]at e1;injection e1 with e1;subst e1
        rw[lu]at e2;injection e2 with e2;subst e2
        simp only[hv,Option.getD_some]
        exact((ih _ _ _ lP IG).2 (R.flat c0 (List.mem_of_getElem? jL) a0 (List.mem_of_getElem? lu))).1
     ·simp at h
    ·simp at h
   ·simp at h
  |ptr id i off=>
   rw[gD]at h
   split at h
   ·rename_i row hg
    split at h
    ·rename_i hw
     split at h
     ·rename_i c0 jL
      simp only[Option.map_eq_some_iff]at h
      obtain⟨cs,dq,rfl⟩:=h
      obtain⟨B,hB,R,N4⟩:=xo id row hg hw
      obtain⟨B',rfl,dF,hk⟩:=iH hr
      rw[hB]at dF;injection dF with dF;subst dF
      replace R:=R.row hk
      obtain⟨l1,l2⟩:=ja dq
      have at_:∀j b,cs[j]? =some b->∃a0 v,w.cell? ⟨B.b,i*B.sz+off+j,none⟩=some v/\cW P w D ι a0 v/\a0.cell=true/\gD g n a0=some b:=fun j b hj=>by
       obtain⟨a0,lu,hf⟩:=l2 j b hj
       rw[List.getElem?_drop]at lu
       obtain⟨v,hv,lP⟩:=R.at_ _ _ _ _ jL lu
       refine⟨a0,v,?_,lP,R.flat c0 (List.mem_of_getElem? jL) a0 (List.mem_of_getElem? lu),hf⟩
       rw[R.sz,Nat.add_assoc];exact hv
      refine both (.cR cs B.b _ (fun j=>(w.cell? ⟨B.b,i*B.sz+off+j,none⟩).getD undef) N4 (fun b hb=>?_) (fun j hj=>?_) (fun j b hj=>?_)) rfl
      ·obtain⟨j,hj,rfl⟩:=List.getElem_of_mem hb
       obtain⟨a0,v,_,lP,hc,hf⟩:=at_ j _ (List.getElem?_eq_getElem hj)
       exact((ih _ _ _ lP hf).2 hc).2
      ·obtain⟨a0,v,hv,_⟩:=at_ j _ (List.getElem?_eq_getElem hj)
       simp only[hv,Option.getD_some]
      ·obtain⟨a0,v,hv,lP,hc,hf⟩:=at_ j b hj
       simp only[hv,Option.getD_some]
       exact((ih _ _ _ lP hf).2 hc).1
     ·simp at h
    ·simp at h
   ·simp at h
  |agg cs=>
   rw[gD]at h
   simp only[Option.map_eq_some_iff]at h
   obtain⟨r',nY,rfl⟩:=h
   obtain⟨vs,f,rfl,h1,h2,h3,h4⟩:=iX hr
   obtain⟨l1,l2⟩:=ja nY
   have hI:jD P w D2 (.agg r') (.agg vs):=.agg r' vs f (by rw[h1,l1]) (fun b hb=>by
    obtain⟨j,hj,rfl⟩:=List.getElem_of_mem hb
    obtain⟨a0,lu,hf⟩:=l2 j _ (List.getElem?_eq_getElem hj)
    exact((ih _ _ _ (h4 j a0 lu) hf).2 (h2 a0 (List.mem_of_getElem? lu))).2) (fun j hj=>h3 j (by rw[<-l1];exact hj)) (fun j b hj=>by
    obtain⟨a0,lu,hf⟩:=l2 j b hj
    exact((ih _ _ _ (h4 j a0 lu) hf).2 (h2 a0 (List.mem_of_getElem? lu))).1)
   exact⟨.eQ _ _ hI,fun hc=>by simp[AV.cell]at hc⟩
  |gy cs=>
   rw[gD]at h
   simp only[Option.map_eq_some_iff]at h
   obtain⟨r',nY,rfl⟩:=h
   obtain⟨vs,f,rfl,h1,h3,h4⟩:=uI hr
   obtain⟨l1,l2⟩:=ja nY
   exact⟨.gy r' vs f (by rw[h1,l1]) (fun j hj=>h3 j (by rw[<-l1];exact hj)) (fun j b hj=>by
    obtain⟨a0,lu,hf⟩:=l2 j b hj
    exact(ih _ _ _ (h4 j a0 lu) hf).1),fun hc=>by simp[AV.cell]at hc⟩
  |fn f da=>rw[gD]at h<;>(try simp at h)<;>(try(intros;simp_all))
  |int k m=>rw[gD]at h<;>(try simp at h)<;>(try subst h)<;>(try(rw[du hr];exact⟨.eQ _ _ (.int _ _),fun _=>⟨.int _ _,rfl⟩⟩))<;>(try(intros;simp_all))
  |bool b=>rw[gD]at h<;>(try simp at h)<;>(try subst h)<;>(try(rw[e5 hr];exact⟨.eQ _ _ (.bool _),fun _=>⟨.bool _,rfl⟩⟩))<;>(try(intros;simp_all))
  |str b=>rw[gD]at h<;>(try simp at h)<;>(try subst h)<;>(try(rw[fE hr];exact⟨.eQ _ _ (.str _),fun _=>⟨.str _,rfl⟩⟩))<;>(try(intros;simp_all))
  |cm=>rw[gD]at h<;>(try simp at h)<;>(try subst h)<;>(try(rw[kf hr];exact⟨.eQ _ _ .cm,fun _=>⟨.cm,rfl⟩⟩))<;>(try(intros;simp_all))
  |jd=>rw[gD]at h<;>(try simp at h)<;>(try subst h)<;>(try(rw[wJ hr];exact⟨.eQ _ _ .jd,fun _=>⟨.jd,rfl⟩⟩))<;>(try(intros;simp_all))
  |jl=>rw[gD]at h<;>(try simp at h)<;>(try subst h)<;>(try(rw[Cg hr];exact⟨.eQ _ _ .jl,fun _=>⟨.jl,rfl⟩⟩))<;>(try(intros;simp_all))
  |tN f da=>rw[gD]at h<;>(try simp at h)<;>(try(intros;simp_all))
  |gT=>rw[gD]at h<;>(try simp at h)<;>(try subst h)<;>(try(cases hr with|eQ _ _ hr=>cases hr;exact both .gT rfl))<;>(try(intros;simp_all))
  |sl rows=>rw[gD]at h<;>(try simp at h)<;>(try(intros;simp_all))
  |cR cs=>rw[gD]at h<;>(try simp at h)<;>(try(intros;simp_all))
end
end Go.Proofs.YtgoljkjaameagaaGreat.V

namespace Go.Proofs.YtgoljkjaameagaaGreat.V
open Go.RowKit
variable {P:Program} {w w':World} {D D':Nat->Prop} {ι ι':Names}
section
variable {g:Rows} {hs:Nat} {env:Env} {a:Act} {o:Oper} {id:Id} {v:AV}
theorem gw.Hn (S:gw P hs D ι g w) {i:Id} {r r':Row} {B:si} {ob:Obj} (hid:g i=some r) (hw:r.w=true) (hB:ι i=some B)
  (hR:(∀a v,cW P w D ι a v->cW P {w with heap:=w.heap.setIfInBounds B.b ob} D ι a v)->(w.heap.setIfInBounds B.b ob)[B.b]? =some ob->gO P {w with heap:=w.heap.setIfInBounds B.b ob} D ι B r'):
  gw P hs D ι (br g i r') {w with heap:=w.heap.setIfInBounds B.b ob}/\Step hs D ι w D ι {w with heap:=w.heap.setIfInBounds B.b ob}:=by
 obtain⟨B0,Bt,R,jZ,pr⟩:=S.row i r hid
 rw[hB]at Bt;injection Bt with Bt;subst Bt
 have other:∀b,b≠B.b->(w.heap.setIfInBounds B.b ob)[b]? =w.heap[b]? :=fun b hb=>by simp[Ne.symm hb]
 have hd:∀b,D b->(w.heap.setIfInBounds B.b ob)[b]? =w.heap[b]? :=fun b hb=>other b (by rintro rfl;exact pr hw hb)
 have hr:∀a v,cW P w D ι a v->cW P {w with heap:=w.heap.setIfInBounds B.b ob} D ι a v:=fun a v h=>h.frame hd (fun _ h=>h) (fun _ _ h=>h)
 refine⟨⟨by simpa using S.lo,fun b hb=>by simpa using S.dead b hb,fun j q h=>?_,fun j j' q q' C C' h h' IY hC ue he=>?_⟩,⟨⟨rfl,rfl,rfl,by simp,fun k hk=>other k (by have:=jZ hw;omega)⟩,hd,fun _ h=>h,fun _ _ h=>h,fun _ h=>.inl h⟩⟩
 ·unfold br at h
  split at h
  ·rename_i e
   subst e
   injection h with h;subst h
   exact⟨B,hB,hR hr (by simp[R.lt]),fun _=>jZ hw,fun _=>pr hw⟩
  ·rename_i e
   obtain⟨C,hC,RC,k1,k2⟩:=S.row j q h
   refine⟨C,hC,RC.frame (other C.b (fun MS=>e ?_)) hr,k1,k2⟩
   exact(S.inj i j r q B C hid h hw hB hC MS.symm).symm
 ·unfold br at h h'
  have get:∀j p,(if j=i then some r' else g j)=some p->∃p0,g j=some p0/\(p.w=true->p0.w=true):=fun j p hp=>by
   split at hp
   ·rename_i e;subst e;injection hp with hp;subst hp;exact⟨r,hid,fun _=>hw⟩
   ·exact⟨p,hp,fun h=>h⟩
  obtain⟨p,hp,P7⟩:=get _ _ h
  obtain⟨p',OB,_⟩:=get _ _ h'
  exact S.inj j j' p p' C C' hp OB (P7 IY) hC ue he
theorem EV {s:TS} {x y:AV} {u v:Value} (he:fD s x y=some true) (hx:cW P w D ι x u) (hy:cW P w D ι y v):u=v/\∀n,Instr.sameBits n u v=true:=by
 unfold fD at he
 split at he
 ·split at he
  ·rename_i hk
   subst hk
   simp at he;subst he
   rw[du hx,du hy]
   exact⟨rfl,fun n=>by cases n<;>simp[Instr.sameBits]⟩
  ·cases he
 ·simp at he;subst he
  rw[e5 hx,e5 hy]
  exact⟨rfl,fun n=>by cases n<;>simp[Instr.sameBits]⟩
 ·simp at he;subst he
  rw[fE hx,fE hy]
  exact⟨rfl,fun n=>by cases n<;>simp[Instr.sameBits,H3]⟩
 ·cases he
theorem Bi {n:Nat}:∀{ts:List TS} {xs ys:List AV} {vs us:List Value},eS ts xs ys=some true->vs.length=xs.length->us.length=ys.length->(∀(j:Nat) (a:AV),xs[j]? =some a->∃u,vs[j]? =some u/\cW P w D ι a u)->(∀(j:Nat) (a:AV),ys[j]? =some a->∃u,us[j]? =some u/\cW P w D ι a u)->
  us.length=vs.length/\(us.zip vs).all (fun p=>Instr.sameBits n p.1 p.2)=true
 |[],[],[],vs,us,_,h1,h2,_,_=>by
  cases vs<;>cases us<;>simp_all
 |[],x::xs,ys,vs,us,h,_,_,_,_=>by simp[eS]at h
 |[],[],y::ys,vs,us,h,_,_,_,_=>by simp[eS]at h
 |t::ts,[],ys,vs,us,h,_,_,_,_=>by simp[eS]at h
 |t::ts,x::xs,[],vs,us,h,_,_,_,_=>by simp[eS]at h
 |t::ts,x::xs,y::ys,[],us,h,h1,_,_,_=>by simp at h1
 |t::ts,x::xs,y::ys,v::vs,[],h,_,h2,_,_=>by simp at h2
 |t::ts,x::xs,y::ys,v::vs,u::us,h,h1,h2,hx,hy=>by
  unfold eS at h
  split at h
  ·rename_i a b ha hb
   simp only[Option.some.injEq,Bool.and_eq_true]at h
   obtain⟨rfl,rfl⟩:=h
   obtain⟨v',nU,rv⟩:=hx 0 x rfl
   obtain⟨u',Fg,ru⟩:=hy 0 y rfl
   simp at nU Fg;subst nU;subst Fg
   obtain⟨e1,e2⟩:=EV ha rv ru
   obtain⟨q1,q2⟩:=Bi (n:=n) hb (by simpa using h1) (by simpa using h2) (fun j a hj=>by simpa using hx (j+1) a (by simpa using hj)) (fun j a hj=>by simpa using hy (j+1) a (by simpa using hj))
   refine⟨by simp[q1],?_⟩
   simp only[List.zip_cons_cons,List.all_cons,q2,Bool.and_true]
   rw[<-e1]
   have:=e2 n
   rw[<-e1]at this
   exact this
  ·cases h
theorem BZ {m:MK} {key:List AV}:∀{rows:List (List AV)} {i j:Nat},gm m key rows i=some (some j)->∃cs,i<=j/\rows[j-i]? =some cs/\eS m.ts key (cs.take m.ks)=some true
 |[],i,j,h=>by simp[gm]at h
 |cs::rows,i,j,h=>by
  unfold gm at h
  split at h
  ·rename_i hq
   simp at h;subst h
   exact⟨cs,Nat.le_refl _,by simp,hq⟩
  ·obtain⟨c,h1,h2,h3⟩:=BZ h
   exact⟨c,by omega,by rw[show j-i=(j-(i+1))+1 by omega];simpa using h2,h3⟩
  ·cases h
theorem wo {m:MK} {k:AV} {rows:List (List AV)} {fi:Option Nat} (h:fR m k rows=some fi):k.isAgg=m.ka/\k.cells.length=m.ks/\(k.cells.all AV.cell=true)/\gm m k.cells rows 0=some fi:=by
 unfold fR at h
 split at h
 ·rename_i hc;exact⟨hc.1,hc.2.1,hc.2.2,h⟩
 ·cases h
theorem JK {m:MK} {k y:AV} (h1:k.isAgg=m.ka) (h2:k.cells.length=m.ks):part m.ka m.ks (k.cells++[y])=some k/\(k.cells++[y])[m.ks]? =some y:=by
 refine⟨?_,by rw[List.getElem?_append_right (by omega),h2,Nat.sub_self];rfl⟩
 cases hk:m.ka with
 |false=>
  rw[hk]at h1
  rw[vm h1];rfl
 |true=>
  rw[hk]at h1
  cases k<;>simp[AV.isAgg]at h1
  rename_i cs
  simp only[AV.cells]at h2 ⊢
  simp only[part,if_true]
  rw[if_pos (by simp;omega),<-h2,List.take_left']
  rfl
theorem stays {k:TypeId} {m:MK} (hK:EK P k m) {key kv:AV} {u yL:Value} {cs:List AV} (h1:key.isAgg=m.ka) (hr:cW P w D ι key u) (hp:part m.ka m.ks cs=some kv) (ho:cW P w D ι kv yL) (he:eS m.ts key.cells (cs.take m.ks)=some true):(Instr.keyThatStays yL u).run P w=.ok u w:=by
 have hs:Instr.sameBits 10000 yL u=true:=by
  rcases hK with⟨s,rfl,hs⟩|⟨fs,ts,rfl,rF,xE,dK,dG⟩
  ·rw[vm h1]at he
   cases cs with
   |nil=>simp[part]at hp
   |cons c l=>
    simp[part]at hp;subst hp
    simp only[MK.ks,List.length_cons,List.length_nil,Nat.zero_add,List.take_succ_cons,List.take_zero,eS]at he
    cases hq:fD s key c with
    |none=>rw[hq]at he;simp at he
    |some b=>
     rw[hq]at he;simp at he;subst he
     obtain⟨e1,e2⟩:=EV hq hr ho
     rw[<-e1]
     have:=e2 10000
     rwa [<-e1]at this
  ·cases key<;>simp[AV.isAgg]at h1
   rename_i ks
   simp only[part,if_true]at hp
   split at hp
   ·simp only[Option.some.injEq]at hp;subst hp
    obtain⟨vs,rfl,n1,r1⟩:=rW hr
    obtain⟨us,rfl,n2,r2⟩:=rW ho
    obtain⟨q1,q2⟩:=Bi (n:=9999) (vs:=vs.toList) (us:=us.toList) he (by simpa[AV.cells]using n1) (by simpa using n2) (fun j a hj=>by simpa using r1 j a hj) (fun j a hj=>by simpa using r2 j a hj)
    simp only[Instr.sameBits,Bool.and_eq_true,beq_iff_eq]
    exact⟨by simpa using q1,q2⟩
   ·cases hp
 simp[Instr.keyThatStays,hs]
theorem J5 {es:Array MapEntry} {clock:Nat} (h:KZ es clock) (k v:Value):KZ (es.push ⟨k,v,clock⟩) (clock+1):=by
 refine⟨fun x hx=>?_,?_⟩
 ·simp only[Array.toList_push,List.mem_append,List.mem_singleton]at hx
  rcases hx with hx|rfl
  ·have:=h.1 x hx;omega
  ·exact Nat.lt_succ_self _
 ·simp only[Array.toList_push,List.map_append,List.map_cons,List.map_nil]
  refine List.nodup_append.2 ⟨h.2,by simp,fun a ha b hb=>?_⟩
  obtain⟨x,hx,rfl⟩:=List.mem_map.1 ha
  simp at hb;subst hb
  have:=h.1 x hx;omega
theorem Et {es:Array MapEntry} {clock:Nat} (h:KZ es clock) (j:Nat) (k v:Value):KZ (es.modify j fun e=>{e with key:=k,val:=v}) clock:=by
 have e:(es.modify j fun e=>{e with key:=k,val:=v}).toList.map (·.born)=es.toList.map (·.born):=by
  refine List.ext_getElem? fun i=>?_
  simp only[List.getElem?_map,Array.getElem?_toList,Array.getElem?_modify]
  split
  ·cases es[i]? <;>rfl
  ·rfl
 refine⟨fun x hx=>?_,by rw[e];exact h.2⟩
 have hb:x.born∈(es.modify j fun e=>{e with key:=k,val:=v}).toList.map (·.born):=List.mem_map_of_mem hx
 rw[e]at hb
 obtain⟨y,hy,hyb⟩:=List.mem_map.1 hb
 rw[<-hyb];exact h.1 y hy
theorem Hc {es:Array MapEntry} {clock:Nat} (h:KZ es clock) {j:Nat} (hj:j<es.size):KZ (es.eraseIdxIfInBounds j) clock:=by
 have e:(es.eraseIdxIfInBounds j).toList=es.toList.eraseIdx j:=by
  unfold Array.eraseIdxIfInBounds
  rw[dif_pos hj,Array.toList_eraseIdx]
 refine⟨fun x hx=>h.1 x ((List.eraseIdx_sublist _ _).subset (by rwa [e]at hx)),?_⟩
 rw[e]
 exact((List.eraseIdx_sublist es.toList j).map (·.born)).nodup h.2
theorem Bn {k y:AV} (h1:k.cells.all AV.cell=true) (h2:y.cell=true):∀a∈k.cells++[y],a.cell=true:=fun a ha=>by
 rcases List.mem_append.1 ha with ha|ha
 ·exact List.all_eq_true.1 h1 a ha
 ·rw[List.mem_singleton.1 ha];exact h2
theorem NS {t:TypeId} {x k y:Operand} {m:MK} {z:K} {x' k' y':O} {g':Rows} (S:gw P hs D ι g w) (E:ck P w D ι env a) (ho:o.op=.mapUpdate t x k y∨o.op=.insert t x k y) (hc:sC P t=some (m,z)) (hx:cO P x=some x') (hk:cO P k=some k') (hy:cO P y=some y')
  (hv:bt (.set m) [cX env x',cX env k',cX env y'] g=some g'):CO P hs a o w D ι id .undef g':=by
 obtain⟨kt,e,i,zv,ht,hi,v7,SK,hK⟩:=rf hc
 simp only[bt,Option.bind_eq_some_iff]at hv
 obtain⟨p,hp,fi,Gg,hv⟩:=hv
 split at hv
 ·rename_i hcond
  obtain⟨hw,hyc,_⟩:=hcond
  simp only[Option.some.injEq]at hv;subst hv
  obtain⟨B,hu,hg,hB,uw,es,clock,hb,ft,hlen,hM⟩:=zU S (dj E hx) hp
  have rk:=dj E hk
  have ry:=dj E hy
  obtain⟨KG,res,hf,hF⟩:=vH (B:=B) hK rk ft hM Gg
  obtain⟨k1,k2,k3,k4⟩:=wo Gg
  obtain⟨B',dF,R,_⟩:=S.row p.1 p.2 hg
  rw[hB]at dF;injection dF with dF;subst dF
  obtain⟨pk1,pk2⟩:=JK (y:=cX env y') k1 k2
  have fW:(getObj B.b).run P w=.ok (.map es clock) w:=MapKept.run_getObj_map hb
  rcases hF with⟨rfl,rfl⟩|⟨j,en,rfl,he,rfl⟩
  ·have nS:=S.Hn (ob:=.map (es.push ⟨a.eval k,a.eval y,clock⟩) (clock+1)) (r':={p.2 with rows:=dB p.2.rows ((cX env k').cells++[cX env y']) none}) hg hw hB fun hr km=>⟨R.sz,fun cs dq=>?_,fun lz=>(by rw[uw]at lz;cases lz),fun m' BA=>?_,fun c hc=>(by rw[uw]at hc;cases hc)⟩
   ·refine⟨undef,_,ι,.inr ⟨?_,rfl⟩,nS.2,nS.1,cW.undef,fun _ _=>rfl⟩
    rcases ho with ho|ho<;>
    ·simp only[execOp,ho,Instr.mapUpdate,hu,Sem.run_bind,run_underlying ht,Result.andThen_ok,fW,KG,hf,MapKept.run_setObj_map _ hb,Sem.run_pure]
   ·rcases List.mem_append.1 dq with h|h
    ·exact R.flat cs h
    ·rw[List.mem_singleton.1 h];exact Bn k3 hyc
   ·rw[uw]at BA;simp only[Option.some.injEq,BK.map.injEq]at BA;subst BA
    refine⟨(R.map m uw).1,_,_,km,by simp[dB,ft],⟨fun cs dq=>?_,J5 hlen.2 _ _⟩,fun q cs hq=>?_⟩
    ·rcases List.mem_append.1 dq with h|h
     ·exact hlen.1 cs h
     ·rw[List.mem_singleton.1 h];simp[k2]
    ·rcases Nat.lt_or_ge q p.2.rows.length with dJ|pq
     ·simp only[dB]at hq
      rw[List.getElem?_append_left dJ]at hq
      obtain⟨en,kv,vv,q1,q2,q3,q4,q5⟩:=hM q cs hq
      exact⟨en,kv,vv,by rw[Array.getElem?_push_lt (by omega)];rw[Array.getElem?_eq_getElem (by omega)]at q1;simpa using q1,q2,q3,hr _ _ q4,hr _ _ q5⟩
     ·simp only[dB]at hq
      rw[List.getElem?_append_right pq]at hq
      have M1:q=p.2.rows.length:=by
       have:=(List.getElem?_eq_some_iff.1 hq).1
       simp at this;omega
      subst M1
      simp at hq;subst hq
      exact⟨⟨a.eval k,a.eval y,clock⟩,_,_,by rw[<-ft];simp,pk1,pk2,hr _ _ rk,hr _ _ ry⟩
  ·simp only[Nat.zero_add]at k4 Gg hf ⊢
   obtain⟨PV,_,Ll,heq⟩:=BZ k4
   simp only[Nat.sub_zero]at Ll
   obtain⟨QB,kv,vv,q1,q2,_,q4,_⟩:=hM j PV Ll
   have MU:QB=en:=by
    have h1:es.toList[j]? =some QB:=by simpa using q1
    rw[he]at h1;injection h1 with h1;exact h1.symm
   subst MU
   have dK:=stays (w:=w) hK k1 rk q2 q4 heq
   have nS:=S.Hn (ob:=.map (es.modify j fun e=>{e with key:=a.eval k,val:=a.eval y}) clock) (r':={p.2 with rows:=dB p.2.rows ((cX env k').cells++[cX env y']) (some j)}) hg hw hB fun hr km=>⟨R.sz,fun cs dq=>?_,fun lz=>(by rw[uw]at lz;cases lz),fun m' BA=>?_,fun c hc=>(by rw[uw]at hc;cases hc)⟩
   ·refine⟨undef,_,ι,.inr ⟨?_,rfl⟩,nS.2,nS.1,cW.undef,fun _ _=>rfl⟩
    rcases ho with ho|ho<;>
    ·simp only[execOp,ho,Instr.mapUpdate,hu,Sem.run_bind,run_underlying ht,Result.andThen_ok,fW,KG,hf,q1,Option.map_some,Option.getD_some,dK,MapKept.run_setObj_map _ hb,Sem.run_pure]
   ·rcases List.mem_or_eq_of_mem_set dq with h|h
    ·exact R.flat cs h
    ·rw[h];exact Bn k3 hyc
   ·rw[uw]at BA;simp only[Option.some.injEq,BK.map.injEq]at BA;subst BA
    have gP:=(List.getElem?_eq_some_iff.1 Ll).1
    refine⟨(R.map m uw).1,_,_,km,by simp[dB,ft],⟨fun cs dq=>?_,Et hlen.2 _ _ _⟩,fun q cs hq=>?_⟩
    ·rcases List.mem_or_eq_of_mem_set dq with h|h
     ·exact hlen.1 cs h
     ·rw[h];simp[k2]
    ·simp only[dB,List.getElem?_set]at hq
     split at hq
     ·rename_i Lt
      subst Lt
      (try rw[if_pos gP]at hq)
      injection hq with hq;subst hq
      exact⟨{QB with key:=a.eval k,val:=a.eval y},_,_,by rw[Array.getElem?_modify];simp[q1],pk1,pk2,hr _ _ rk,hr _ _ ry⟩
     ·rename_i Lt
      obtain⟨en,kv,vv,q1,q2,q3,q4,q5⟩:=hM q cs hq
      exact⟨en,kv,vv,by rw[Array.getElem?_modify];simp[Lt,q1],q2,q3,hr _ _ q4,hr _ _ q5⟩
 ·cases hv
theorem NR {t t':TypeId} {x k:Operand} {m:MK} {z:K} {x' k':O} {g':Rows} (S:gw P hs D ι g w) (E:ck P w D ι env a) (ho:o.op=.call {callee:=.builtin .delete,args:= #[x,k],argTypes:= #[t,t']}) (hc:sC P t=some (m,z)) (hx:cO P x=some x') (hk:cO P k=some k')
  (hv:bt (.del m) [cX env x',cX env k'] g=some g'):CO P hs a o w D ι id .undef g':=by
 obtain⟨kt,e,i,zv,ht,hi,v7,SK,hK⟩:=rf hc
 simp only[bt,Option.bind_eq_some_iff]at hv
 obtain⟨p,hp,fi,Gg,hv⟩:=hv
 split at hv
 ·rename_i hw
  simp only[Option.some.injEq]at hv;subst hv
  obtain⟨B,hu,hg,hB,uw,es,clock,hb,ft,hlen,hM⟩:=zU S (dj E hx) hp
  have rk:=dj E hk
  obtain⟨KG,res,hf,hF⟩:=vH (B:=B) hK rk ft hM Gg
  obtain⟨k1,k2,k3,k4⟩:=wo Gg
  obtain⟨B',dF,R,_⟩:=S.row p.1 p.2 hg
  rw[hB]at dF;injection dF with dF;subst dF
  have fW:(getObj B.b).run P w=.ok (.map es clock) w:=MapKept.run_getObj_map hb
  have go:∀ob,(Builtin.delete_ #[t,t'] o.type #[a.eval x,a.eval k]).run P w=.ok (.tuple #[]) {w with heap:=w.heap.setIfInBounds B.b ob}->(execOp a.eval o).run P w=.ok (.value undef) {w with heap:=w.heap.setIfInBounds B.b ob}:=fun ob h=>by
   simp only[execOp,ho,resolve,Sem.run_bind,Sem.run_pure,Result.andThen_ok,invoke,builtin,Array.map]
   simp[h,undef]
  rcases hF with⟨rfl,rfl⟩|⟨j,en,rfl,he,rfl⟩
  ·have nS:=S.Hn (ob:=.map es clock) (r':={p.2 with rows:=dz p.2.rows none}) hg hw hB fun hr km=>⟨R.sz,R.flat,fun lz=>(by rw[uw]at lz;cases lz),fun m' BA=>?_,fun c hc=>(by rw[uw]at hc;cases hc)⟩
   ·refine⟨undef,_,ι,.inl (go _ ?_),nS.2,nS.1,cW.undef,fun _ _=>rfl⟩
    simp[Builtin.delete_,hu,run_underlying ht,fW,KG,hf,MapKept.run_setObj_map _ hb]
   ·rw[uw]at BA;simp only[Option.some.injEq,BK.map.injEq]at BA;subst BA
    exact⟨(R.map m uw).1,_,_,km,ft,hlen,fun q cs hq=>by
     obtain⟨en,kv,vv,q1,q2,q3,q4,q5⟩:=hM q cs hq
     exact⟨en,kv,vv,q1,q2,q3,hr _ _ q4,hr _ _ q5⟩⟩
  ·simp only[Nat.zero_add]at hf ⊢
   have gP:j<es.size:=by have:=(List.getElem?_eq_some_iff.1 he).1;simpa using this
   have nS:=S.Hn (ob:=.map (es.eraseIdxIfInBounds j) clock) (r':={p.2 with rows:=dz p.2.rows (some j)}) hg hw hB fun hr km=>⟨R.sz,fun cs dq=>R.flat cs (List.mem_of_mem_eraseIdx dq),fun lz=>(by rw[uw]at lz;cases lz),fun m' BA=>?_,fun c hc=>(by rw[uw]at hc;cases hc)⟩
   ·refine⟨undef,_,ι,.inl (go _ ?_),nS.2,nS.1,cW.undef,fun _ _=>rfl⟩
    simp[Builtin.delete_,hu,run_underlying ht,fW,KG,hf,MapKept.run_setObj_map _ hb]
   ·rw[uw]at BA;simp only[Option.some.injEq,BK.map.injEq]at BA;subst BA
    have he2:∀q,(es.eraseIdxIfInBounds j)[q]? =(es.toList.eraseIdx j)[q]? :=fun q=>by
     unfold Array.eraseIdxIfInBounds
     rw[dif_pos gP,<-Array.getElem?_toList,Array.toList_eraseIdx]
    refine⟨(R.map m uw).1,_,_,km,by simp[dz,Array.eraseIdxIfInBounds,gP,List.length_eraseIdx,<-ft],⟨fun cs dq=>hlen.1 cs (List.mem_of_mem_eraseIdx dq),Hc hlen.2 gP⟩,fun q cs hq=>?_⟩
    simp only[dz,List.getElem?_eraseIdx]at hq
    split at hq
    ·rename_i dJ
     obtain⟨en,kv,vv,q1,q2,q3,q4,q5⟩:=hM q cs hq
     exact⟨en,kv,vv,by rw[he2,List.getElem?_eraseIdx,if_pos dJ];simpa using q1,q2,q3,hr _ _ q4,hr _ _ q5⟩
    ·rename_i dJ
     obtain⟨en,kv,vv,q1,q2,q3,q4,q5⟩:=hM (q+1) cs hq
     exact⟨en,kv,vv,by rw[he2,List.getElem?_eraseIdx,if_neg dJ];simpa using q1,q2,q3,hr _ _ q4,hr _ _ q5⟩
 ·cases hv
end
end Go.Proofs.YtgoljkjaameagaaGreat.V
