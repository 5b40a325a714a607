/- A small language in which the program's functions are read by value: its values, its operations, its code, and how the program's code is brought into it. -/
import Derived.WalkKit
import Derived.WalkSpells
import Derived.WalkLawsBesides
import Derived.Lib.Hide
import Derived.Great.BuildSlice
import Derived.Conc.LoneCalls
import Derived.MapKept
import Derived.WideKeyRuns
set_option linter.unusedVariables false
set_option linter.unusedSimpArgs false
set_option maxRecDepth 100000
set_option maxHeartbeats 16000000
namespace Go.Proofs.YtgoljkjaameagaaGreat.V
open Go.RowKit
structure Id where
  site:Nat
  cV:Nat
  deriving DecidableEq,Repr
inductive TS where
  |tI|tB|tS
  deriving Repr,DecidableEq
structure MK where
  ka:Bool
  ts:List TS
  deriving Repr,DecidableEq
inductive AV where
  |int (k:IntKind) (n:Int)
  |bool (b:Bool)
  |str (s:ByteArray)
  |bS|gE|iJ
  |sl (rows:List (List AV))
  |own (id:Id) (off len:Nat)
  |ptr (id:Id) (i off:Nat)
  |dt (cs:List AV)
  |agg (cs:List AV)
  |gn (vs:List AV)
  |fn (f:Nat) (di:List AV)
  |map (id:Id) (m:MK)
  |iT
  |tY (f:Nat) (first:List AV)
  |qx (id:Id)
  deriving Inhabited
def AV.undef:AV:=.gn []
def AV.cell:AV->Bool
  | .agg _| .gn _=>false
  |_=>true
def AV.cells:AV->List AV
  | .agg cs=>cs
  |v=>[v]
inductive K where
  |int (k:IntKind) (n:Int)
  |bool (b:Bool)
  |str (l:List UInt8)
  |bS|gE|iJ|iT
  deriving Repr,DecidableEq
def K.val:K->Value
  | .int k n=>.int k n
  | .bool b=>.bool b
  | .str l=>.string ⟨l.toArray⟩
  | .bS=>.slice none 0 0
  | .gE=>.pointer none
  | .iJ=>.nilFunc
  | .iT=>.map none
def K.av:K->AV
  | .int k n=>.int k n
  | .bool b=>.bool b
  | .str l=>.str ⟨l.toArray⟩
  | .bS=>.bS
  | .gE=>.gE
  | .iJ=>.iJ
  | .iT=>.iT
def Gz:Value->Option K
  | .int k n=>some (.int k n)
  | .bool b=>some (.bool b)
  | .string s=>some (.str s.data.toList)
  | .slice none 0 0=>some .bS
  | .pointer none=>some .gE
  | .nilFunc=>some .iJ
  | .map none=>some .iT
  |_=>none
inductive O where
  |t (n:Nat)
  |k (c:K)
  |ka (cs:List K)
  |f (n:Nat)
  deriving Repr,DecidableEq
inductive MQ where
  |new (m:MK)
  |look (m:MK) (ok:Bool) (zero:K)
  |len (m:MK)
  deriving Repr,DecidableEq
inductive MW where
  |set (m:MK)
  |del (m:MK)
  deriving Repr,DecidableEq
inductive gy where
  |dq (x:O)
  |pick (c a b:O)
  |new (zero:List K)
  |box (x:O)
  |build (zero:List K) (parts:List (Nat×Nat×O))
  |lr (sz len:Nat) (parts:List O)
  |load (agg:Bool) (n:Nat) (a:O)
  |store (n:Nat) (a x:O)
  |AI (x:O)
  |bin (op:BinOp) (k:IntKind) (x y:O)
  |sh (left:Bool) (x y:O)
  |KW (op:BinOp) (x y:O)
  |MJ (neg:Bool) (t:TS) (x y:O)
  |Sx (neg:Bool) (ts:List TS) (x y:O)
  |QN (neg LJ:Bool) (x:O)
  |Sy (neg:Bool) (x:O)
  |not (x:O)
  |neg (x:O)
  |conv (k:IntKind) (x:O)
  |ES (x:O)
  |slice (sz:Nat) (x:O) (lo hi:Option O)
  |zO (x:O) (lo hi:Option O)
  |fx (off:Nat) (x:O)
  |field (agg:Bool) (off n:Nat) (x:O)
  |ea (sz:Nat) (x i:O)
  |LD (len sz:Nat) (x i:O)
  |LG (x i:O)
  |eO (agg:Bool) (len n:Nat) (x i:O)
  |extract (i:Nat) (x:O)
  |len (x:O)
  |LO (x:O)
  |append (sz:Nat) (x y:O)
  |copy (sz:Nat) (x y:O)
  |clear (zero:List K) (x:O)
  |LV (f:Nat) (di:List O)
  |LW (f:Nat) (first:List O)
  |jJ (zero:List K) (len cap:O)
  |call (f:Nat) (args:List O)
  |sM (x:O) (args:List O)
  |mq (q:MQ) (xs:List O)
  |mw (q:MW) (xs:List O)
  |Jp (x:O)
  |Jf (x:O)
  |snd (x y:O)
  |Pj (x:O)
  |bad
  deriving Repr,DecidableEq
structure bH where
  dst:Option Nat
  op:gy
  guard:Option (Nat×Bool)
  site:Nat
  hid:List Nat
  deriving Repr,DecidableEq
def q (d:Nat) (op:gy) (s:Nat):bH:=⟨some d,op,none,s,[]⟩
inductive VC where
  |skip
  |eA (draw:Bool) (ops:List bH)
  |seq (a b:VC)
  |cond (c:O) (x y:VC)
  |block (id:Nat) (c:VC)
  |loop (c:VC)
  |exit (id:Nat)
  |ret
  |one (o:bH) (c:VC)
  |both (a b:VC)
  |loc (t s:Nat) (y:O) (c:VC)
  |NQ (ops:List bH)
  deriving Repr,DecidableEq
inductive nh where
  |tmp (t:Nat)
  |cell (agg:Bool) (n:Nat) (t:Nat)
  deriving Repr,DecidableEq
structure Ac where
  ntmps:Nat
  yl:Nat
  body:VC
  res:List nh
  deriving Repr,DecidableEq
def fS (P:Program) (f:Nat):Bool:=
  match P.funcs[f]? with
  |some fn=>fn.body.isSome&& !(fn.name== "runtime.NumGoroutine")
  |none=>false
def cO (P:Program):Operand->Option O
  | .tmp t=>some (.t t)
  | .const (.agg cs)=>(cs.toList.mapM Gz).map O.ka
  | .const v=>(Gz v).map O.k
  | .global _=>none
  | .func f=>if fS P f then some (.f f)else none
def js (P:Program) (t:TypeId):Option (List K):=
  match P.info? t with
  |some i=>match i.zero with
    |some v=>if v.cells.size=i.size then v.cells.toList.mapM Gz else none
    |none=>none
  |none=>none
def ep (P:Program) (t:TypeId):Option Nat:=(P.info? t).map (·.size)
def nr (P:Program) (t:TypeId):Option Bool:=
  match P.underlying t with
  |some (.struct _)|some (.array _ _)=>some true
  |some _=>some false
  |none=>none
inductive Tt where
  |sc (t:TS)|ag (ts:List TS)
  deriving Repr,DecidableEq
def fy (P:Program) (t:TypeId):Option TS:=
  match P.underlying t with
  |some .bool=>some .tB
  |some (.int _)=>some .tI
  |some .string=>some .tS
  |_=>none
def De (P:Program) (inner:List Field->Option (List TS)):Nat->List Field->Option (List TS)
  |_,[]=>some []
  |off,f::r=>
    if f.offset=off/\f.name≠ "_" then
      match fy P f.type with
      |some t=>if nr P f.type=some false then(De P inner (off+1) r).map (t::·)else none
      |none=>match P.underlying f.type with
        |some (.struct fs)=>if !P.stoodInHeld f.type then match inner fs.toList with
          |some ts=>if ep P f.type=some ts.length/\ts≠[]then(De P inner (off+ts.length) r).map (ts++·)else none
          |none=>none else none
        |_=>none
    else none
def eJ (P:Program):Nat->Nat->List Field->Option (List TS)
  |0,_,[]=>some []
  |0,_,_::_=>none
  |d+1,off,fs=>De P (eJ P d 0) off fs
def TD (P:Program) (t:TypeId):Option Tt:=
  match fy P t with
  |some s=>some (.sc s)
  |none=>match P.underlying t with
    |some (.struct fs)=>if !P.stoodInHeld t&& !P.eqGuardType P.depth t then(eJ P 4 0 fs.toList).map Tt.ag else none
    |_=>none
def rQ (P:Program) (fs:Array Field):List (Nat×O)->Option (List (Nat×Nat×O))
  |[]=>some []
  |(i,x)::r=>match fs[i]? with
    |some f=>match ep P f.type with
      |some n=>(rQ P fs r).map ((f.offset,n,x)::·)
      |none=>none
    |none=>none
def rT (P:Program) (ps:Array (Nat×Operand)):Option (List (Nat×O)):=ps.toList.mapM fun(i,x)=>(cO P x).map (i,·)
def qv (P:Program):Option Operand->Option (Option O)
  |none=>some none
  |some x=>(cO P x).map some
def rR (P:Program) (neg:Bool) (t:TypeId) (x y:Operand):Option gy:=
  match y with
  | .const (.slice none 0 0)=>match P.underlying t with
    |some (.slice _)=>(cO P x).map (gy.QN neg false)
    |_=>none
  | .const .nilFunc=>match P.underlying t with
    |some (.func ..)=>(cO P x).map (gy.QN neg true)
    |_=>none
  | .const (.pointer none)=>match P.underlying t with
    |some (.pointer _)=>(cO P x).map (gy.Sy neg)
    |_=>none
  |_=>match TD P t with
    |some (.sc s)=>do pure (.MJ neg s (<-cO P x) (<-cO P y))
    |some (.ag ts)=>do pure (.Sx neg ts (<-cO P x) (<-cO P y))
    |_=>none
def uu (P:Program) (op:BinOp) (t:TypeId) (x y:Operand):Option gy:=
  match op with
  | .eql=>rR P false t x y
  | .neq=>rR P true t x y
  | .shl=>do pure (.sh true (<-cO P x) (<-cO P y))
  | .shr=>do pure (.sh false (<-cO P x) (<-cO P y))
  |op=>match P.underlying t with
    |some (.int k)=>do pure (.bin op k (<-cO P x) (<-cO P y))
    |some .string=>do pure (.KW op (<-cO P x) (<-cO P y))
    |_=>none
def rS (P:Program) (t:TypeId):Option (MK×K):=
  match P.underlying t with
  |some (.map k e)=>match nr P e,(P.info? e).bind (·.zero),fy P k,P.underlying k with
    |some false,some zv,some s,_=>(Gz zv).map fun z=>(⟨false,[s]⟩,z)
    |some false,some zv,none,some (.struct fs)=>match eJ P 4 0 fs.toList,Gz zv with
      |some ts,some z=>if !P.stoodInHeld k/\fs.toList.all (fun f=>(fy P f.type).isSome)then some (⟨true,ts⟩,z)else none
      |_,_=>none
    |_,_,_,_=>none
  |_=>none
def mU (P:Program) (c:Call):Option gy:=
  match c.callee with
  | .builtin .len=>match c.args.toList,c.argTypes.toList with
    |[x],[t]=>match P.underlying t with
      |some (.slice _)=>(cO P x).map gy.len
      |some .string=>(cO P x).map gy.LO
      |some (.map _ _)=>match rS P t,cO P x with
        |some (m,_),some x=>some (.mq (.len m) [x])
        |_,_=>none
      |some (.chan _ _)=>(cO P x).map gy.Jf
      |_=>none
    |_,_=>none
  | .builtin .append=>match c.args.toList,c.argTypes.toList with
    |[x,y],[t,u]=>match P.underlying t with
      |some (.slice e)=>match ep P e,js P e,P.info? e with
        |some (sz+1),some _,some i=>if i.bytes<=32768/\t=u then do pure (.append (sz+1) (<-cO P x) (<-cO P y))else none
        |_,_,_=>none
      |_=>none
    |_,_=>none
  | .builtin .clear=>match c.args.toList,c.argTypes.toList with
    |[x],[t]=>match P.underlying t with
      |some (.slice e)=>match ep P e,js P e with
        |some (_+1),some z=>(cO P x).map (gy.clear z)
        |_,_=>none
      |_=>none
    |_,_=>none
  | .value (.func f)=>if fS P f then(c.args.toList.mapM (cO P)).map (gy.call f)else none
  | .value (.tmp t)=>(c.args.toList.mapM (cO P)).map (gy.sM (.t t))
  | .builtin .delete=>match c.args.toList,c.argTypes.toList with
    |[x,k],[t,_]=>match rS P t,cO P x,cO P k with
      |some (m,_),some x,some k=>some (.mw (.del m) [x,k])
      |_,_,_=>none
    |_,_=>none
  | .builtin .copy=>match c.args.toList,c.argTypes.toList with
    |[x,y],[t,_]=>match P.underlying t with
      |some (.slice e)=>match ep P e with
        |some (sz+1)=>do pure (.copy (sz+1) (<-cO P x) (<-cO P y))
        |_=>none
      |_=>none
    |_,_=>none
  |_=>none
def qh (P:Program) (o:Op):Option gy:=
  match o with
  | .move x| .assign x=>(cO P x).map gy.dq
  | .pick c a b=>do pure (.pick (<-cO P c) (<-cO P a) (<-cO P b))
  | .alloc e=>(js P e).map gy.new
  | .box _ x=>(cO P x).map gy.box
  | .load t a=>do pure (.load (<-nr P t) (<-ep P t) (<-cO P a))
  | .store t a x=>do pure (.store (<-ep P t) (<-cO P a) (<-cO P x))
  | .nilCheck x=>(cO P x).map gy.AI
  | .binOp op t x y _=>uu P op t x y
  | .unOp .not _ x=>(cO P x).map gy.not
  | .unOp .neg _ x=>(cO P x).map gy.neg
  | .convert s d x=>match P.underlying s,P.underlying d with
    |some (.int _),some (.int k)=>(cO P x).map (gy.conv k)
    |some .string,some .string=>(cO P x).map gy.ES
    |_,_=>none
  | .slice t x lo hi none=>match P.underlying t with
    |some (.slice e)=>do
      pure (.slice (<-ep P e) (<-cO P x) (<-qv P lo) (<-qv P hi))
    |some .string=>do pure (.zO (<-cO P x) (<-qv P lo) (<-qv P hi))
    |_=>none
  | .fieldAddr s x i=>match P.underlying s with
    |some (.struct fs)=>match fs[i]? with
      |some f=>match ep P f.type with
        |some (_+1)=>(cO P x).map (gy.fx f.offset)
        |_=>none
      |none=>none
    |_=>none
  | .field s x i=>match P.underlying s with
    |some (.struct fs)=>match fs[i]? with
      |some f=>do pure (.field (<-nr P f.type) f.offset (<-ep P f.type) (<-cO P x))
      |none=>none
    |_=>none
  | .indexAddr t x i=>match P.underlying t with
    |some (.slice e)=>match ep P e with
      |some (m+1)=>do pure (.ea (m+1) (<-cO P x) (<-cO P i))
      |_=>none
    |some (.array len e)=>match ep P e with
      |some (m+1)=>do pure (.LD len (m+1) (<-cO P x) (<-cO P i))
      |_=>none
    |_=>none
  | .index t x i=>match P.underlying t with
    |some .string=>do pure (.LG (<-cO P x) (<-cO P i))
    |some (.array len e)=>do pure (.eO (<-nr P e) len (<-ep P e) (<-cO P x) (<-cO P i))
    |_=>none
  | .extract x i=>(cO P x).map (gy.extract i)
  | .build t ps=>match P.underlying t with
    |some (.struct fs)=>
      match js P t,rT P ps with
      |some z,some l=>
        if fs.all (fun f=>(P.info? f.type).isSome)then(rQ P fs l).map (gy.build z)else none
      |_,_=>none
    |some (.array _ e)=>
      match js P t,rT P ps,ep P e with
      |some z,some l,some n=>some (.build z (l.map fun(i,x)=>(i*n,n,x)))
      |_,_,_=>none
    |_=>none
  | .buildSlice t len ps=>match P.underlying t with
    |some (.slice e)=>match ep P e,js P e,rT P ps with
      |some (sz+1),some _,some l=>
        if len*(sz+1)<=4096/\l.map (·.1)=List.range len then some (.lr (sz+1) len (l.map (·.2)))else none
      |_,_,_=>none
    |_=>none
  | .makeFunc (.func f) first di=>
    if first= #[]/\fS P f then(di.toList.mapM (cO P)).map (gy.LV f)else if di= #[]/\fS P f then(first.toList.mapM (cO P)).map (gy.LW f)else none
  | .makeSlice t l c=>match P.underlying t with
    |some (.slice e)=>match ep P e,js P e,P.info? e with
      |some (_+1),some z,some i=>if i.bytes<=32768 then do pure (.jJ z (<-cO P l) (<-cO P c))else none
      |_,_,_=>none
    |_=>none
  | .call c=>mU P c
  | .makeChan t n=>match P.underlying t with
    |some (.chan _ e)=>match P.info? e with
      |some i=>if i.bytes<=32768 then(cO P n).map gy.Jp else none
      |none=>none
    |_=>none
  | .send x y=>do pure (.snd (<-cO P x) (<-cO P y))
  | .recv t x false=>match P.underlying t with
    |some (.chan _ e)=>match (P.info? e).bind (·.zero)with
      |some _=>(cO P x).map gy.Pj
      |none=>none
    |_=>none
  | .makeMap t none=>match rS P t with
    |some (m,_)=>some (.mq (.new m) [])
    |none=>none
  | .lookup t x k ok=>match rS P t,cO P x,cO P k with
    |some (m,z),some x,some k=>some (.mq (.look m ok z) [x,k])
    |_,_,_=>none
  | .mapUpdate t x k v| .insert t x k v=>match rS P t,cO P x,cO P k,cO P v with
    |some (m,_),some x,some k,some v=>some (.mw (.set m) [x,k,v])
    |_,_,_,_=>none
  | .makeInterface _ _=>some .bad
  | .panic _=>some .bad
  |_=>none
inductive Tr where
  |pure|look|make|write
  deriving DecidableEq,Repr
def gy.cls:gy->Tr
  | .new _| .box _| .lr .. | .jJ .. | .mq (.new _) _| .Jp _=>.make
  | .load .. | .ea .. | .slice .. | .call .. | .sM .. | .mq .. | .Jf _=>.look
  | .store .. | .append .. | .copy .. | .clear .. | .mw .. | .snd .. | .Pj _=>.write
  |_=>.pure
def clash:Tr->Tr->Bool
  | .pure,_|_,.pure=>false
  | .write,_|_,.write=>true
  |_,_=>false
def jn (ops:Array Oper):Array Nat:=Region.before ops
def p9:gy->Bool:=fun o=>o.cls==.make||o.cls==.write
def gy.lx:gy->Bool
  | .call .. | .sM .. =>true
  |_=>false
def CW (ops:Array Oper) (o:Oper):Option (Option (Nat×Bool)):=
  match o.guard with
  |none=>some none
  |some (i,b)=>match (ops[i]?).bind (·.dst)with
    |some t=>some (some (t,b))
    |none=>none
def kn (P:Program) (ops:Array Oper) (nt site0:Nat) (draw mk:Bool) (bs:Array Nat) (hidden:List (Nat×Bool)) (j:Nat) (o:Oper):Option bH:=do
  let v <-qh P o.op
  let g <-CW ops o
  if (o.dst.all fun d=>decide (d<nt))then
    pure {dst:=o.dst,op:=v,guard:=g,site:=site0+j,hid:=if draw then(hidden.filter fun(i,m)=>m&& !(bs.getD j 0).testBit i&&(i !=j||mk&&v.lx)).map fun(i,_)=>site0+i else[]}
  else none
def allM {α:Type} (f:Nat->Oper->Option α):List Oper->Nat->Option (List α)
  |[],_=>some []
  |o::r,j=>do pure ((<-f j o)::(<-allM f r (j+1)))
def gO:O->List Nat
  | .t n=>[n]
  |_=>[]
def vw:Option O->List Nat
  |some x=>gO x
  |none=>[]
def gy.gF:gy->List Nat
  | .clear _ x| .dq x| .box x| .load _ _ x| .AI x| .QN _ _ x| .Sy _ x| .not x| .neg x| .conv _ x| .ES x| .fx _ x| .field _ _ _ x| .extract _ x| .len x| .LO x| .Jp x| .Jf x| .Pj x=>gO x
  | .pick c a b=>gO c++gO a++gO b
  | .new _| .bad=>[]
  | .build _ ps=>ps.flatMap fun(_,_,x)=>gO x
  | .lr _ _ ps=>ps.flatMap gO
  | .store _ a x| .snd a x=>gO a++gO x
  | .bin _ _ x y| .sh _ x y| .KW _ x y| .MJ _ _ x y| .Sx _ _ x y| .ea _ x y| .LD _ _ x y| .LG x y| .eO _ _ _ x y| .append _ x y| .copy _ x y| .jJ _ x y=>gO x++gO y
  | .slice _ x lo hi| .zO x lo hi=>gO x++vw lo++vw hi
  | .LV _ l| .LW _ l| .call _ l| .mq _ l| .mw _ l=>l.flatMap gO
  | .sM x l=>gO x++l.flatMap gO
def bH.gF (v:bH):List Nat:=v.op.gF++(match v.guard with|some (t,_)=>[t]|none=>[])
def sF (x y:bH):Bool:=
  (match x.dst with
   |some d=> !y.gF.contains d&&y.dst !=some d
   |none=>true)&&
  (match y.dst with
   |some d=> !x.gF.contains d
   |none=>true)
def bH.makes (v:bH):Bool:=p9 v.op||v.op.lx&&v.hid.contains v.site
def E5 (x y:bH):Bool:=
  sF x y&& !clash x.op.cls y.op.cls&&(!x.makes||y.hid.contains x.site)&&(!y.makes||x.hid.contains y.site)&&x.site !=y.site
def EV (ops:Array Oper):Bool:=ops.toList.zipIdx.all fun(o,j)=>o.after.all fun e=> !Region.binds .any e||decide (e.on<j)
def nR (ops:Array Oper) (vl:List bH) (bs:Array Nat):Bool:=
  EV ops&&vl.zipIdx.all fun(y,j)=>vl.zipIdx.all fun(x,i)=> !(decide (i<j))||(bs.getD j 0).testBit i||E5 x y
def qw (P:Program) (nt site0:Nat) (ops:Array Oper) (draw mk:Bool):Option (List bH):=
  let bs:=if draw then jn ops else #[]
  let hidden:=if draw then ops.toList.zipIdx.map fun(o,i)=>(i,((qh P o.op).map fun v=>p9 v||mk&&v.lx).getD false)else[]
  match allM (kn P ops nt site0 draw mk bs hidden) ops.toList 0 with
  |some vl=>if !draw||nR ops vl bs then some vl else none
  |none=>none
def kC (v:bH):Bool:= !v.op.lx&&v.op.cls !=.write
def xQ (x y:bH):Bool:=sF x y&&x.op.cls==.pure||E5 x y&&kC x&&kC y
def pR (ops:Array Oper) (vl:List bH) (bs:Array Nat) (listed:Array Bool) (i:Nat):Bool:=
  match vl[i]? with
  |some x=>(List.range ops.size).all fun j=>listed.getD j false||j==i||(bs.getD j 0).testBit i||(match vl[j]? with|some y=>xQ x y|none=>false)
  |none=>false
def Ni (vl:List bH) (x:bH):Option (Nat×Nat×O):=
  match x.op,x.guard with
  | .append _ (.t t) y,none=>match vl.find? fun v=>v.dst==some t&&v.op.cls==.make with
    |some v=>some (t,v.site,y)
    |none=>none
  |_,_=>none
def E4 (s:Nat) (x y:bH):Bool:=sF x y&&kC y&&y.hid.contains s&&y.hid.contains x.site&&y.site !=s&&y.site !=x.site
def nU (ops:Array Oper) (vl:List bH) (bs:Array Nat) (listed:Array Bool) (i s:Nat):Bool:=
  match vl[i]? with
  |some x=>(List.range ops.size).all fun j=>listed.getD j false||j==i||(bs.getD j 0).testBit i||(match vl[j]? with|some y=>E4 s x y|none=>false)
  |none=>false
def O8 (ops:Array Oper) (vl:List bH) (bs:Array Nat) (listed:Array Bool) (i:Nat):Option (Nat×Nat×Nat×O×bH):=
  match vl[i]? with
  |some x=>match Ni vl x with
    |some (t,s,y)=>if nU ops vl bs listed i s then some (i,t,s,y,x)else none
    |none=>none
  |none=>none
def AD:List VC->Option VC
  |[]=>none
  |[c]=>some c
  |c::r=>(AD r).map (VC.both c)
def wz (ops:Array Oper) (vl:List bH) (bs:Array Nat):Nat->Array Bool->Option VC
  |0,listed=>
    match Region.ready .any ops listed with
    |[]=>some (.eA false [])
    |_::_=>none
  |n+1,listed=>
    match Region.ready .any ops listed with
    |[]=>some (.eA false [])
    |r::rs=>let rdy:=r::rs
      match rdy.find? (pR ops vl bs listed)with
      |some i=>match vl[i]? with
        |some vo=>(wz ops vl bs n (listed.setIfInBounds i true)).map (VC.one vo)
        |none=>none
      |none=>match rdy.findSome? (O8 ops vl bs listed)with
        |some (i,t,s,y,vo)=>(wz ops vl bs n (listed.setIfInBounds i true)).map fun c=>VC.loc t s y (.one vo c)
        |none=>match rdy.mapM fun i=>(vl[i]?).bind fun vo=>(wz ops vl bs n (listed.setIfInBounds i true)).map (VC.one vo)with
          |some l=>AD l
          |none=>none
def Ng:Op->Bool
  | .send .. | .recv .. =>true
  |_=>false
def QG (P:Program) (nt site0:Nat) (ops:Array Oper) (draw:Bool) (mode:Nat):Option VC:=
  if draw&&mode==2 then
    match allM (kn P ops nt site0 true false (jn ops) (ops.toList.zipIdx.map fun(o,i)=>(i,((qh P o.op).map p9).getD false))) ops.toList 0 with
    |some vl=>wz ops vl (jn ops) ops.size (Array.replicate ops.size false)
    |none=>none
  else if !draw&&ops.any (fun o=>Ng o.op)then(qw P nt site0 ops false false).map VC.NQ
  else(qw P nt site0 ops draw (mode==1)).map (VC.eA draw)
def vk (md:List (Nat×Nat)) (id:Nat):Nat:=
  match md with
  |[]=>0
  |(i,m)::r=>if i=id then m else vk r id
def iX (P:Program) (md:List (Nat×Nat)) (nt fid:Nat):Code->Option VC
  | .skip=>some .skip
  | .region id ops draw=>QG P nt ((fid*1000+id)*1000) ops draw (vk md id)
  | .seq a b=>do pure (.seq (<-iX P md nt fid a) (<-iX P md nt fid b))
  | .cond c x y=>do pure (.cond (<-cO P c) (<-iX P md nt fid x) (<-iX P md nt fid y))
  | .block id c=>(iX P md nt fid c).map (VC.block id)
  | .loop c=>(iX P md nt fid c).map VC.loop
  | .exit id=>some (.exit id)
  | .ret=>some .ret
  |_=>none
def CX (P:Program) (r:ResultVar):Option nh:=
  match r with
  | .tmp t=>some (.tmp t)
  | .cell a t=>do pure (.cell (<-nr P t) (<-ep P t) a)
def wW (P:Program) (f:Nat) (md:List (Nat×Nat)):Option Ac:=
  match P.funcs[f]? with
  |some fn=>match fn.body with
    |some c=>do
      let b <-iX P md fn.ntmps f c
      let r <-fn.results.toList.mapM (CX P)
      if fn.params.size+fn.nfree<=fn.ntmps then pure {ntmps:=fn.ntmps,yl:=fn.params.size+fn.nfree,body:=b,res:=r}else none
    |none=>none
  |none=>none
def lP (P:Program) (f:Nat):Option Ac:=wW P f []
theorem ai {P:Prop} (h:P:=by omega):P:=h
theorem bK {P:Prop} (h:P:=by(try dsimp only);omega):P:=h
structure Row where
 w:Bool
 sz:Nat
 rows:List (List AV)
abbrev Rows:=Id->Option Row
structure au where
 get:Rows
 next:Nat
abbrev Env:=Nat->AV
def upd (env:Env):Option Nat->AV->Env
 |some d,v=>fun t=>if t=d then v else env t
 |none,_=>env
inductive Ex where
 |normal
 |exit (id:Nat)
 |ret
 deriving DecidableEq
def cZ (env:Env):O->AV
 | .t n=>env n
 | .k c=>c.av
 | .ka cs=>.agg (cs.map K.av)
 | .f n=>.fn n []
def bD (g:Rows) (id:Id) (r:Row):Rows:=fun i=>if i=id then some r else g i
def bL (g:Rows) (id:Id):Rows:=fun i=>if i=id then none else g i
def e8:List Nat->Nat->Rows->Rows
 |[],_,g=>g
 |h::t,n,g=>fun id=>if (h::t).contains id.site=true/\id.cV=n then none else g id
def ro (g:Rows):Rows:=fun id=>(g id).map fun r=>{r with w:=false}
def part (agg:Bool) (n:Nat) (cs:List AV):Option AV:=
 if agg then(if n<=cs.length then some (.agg (cs.take n))else none)else cs.head?
def rowAt (g:Rows) (id:Id) (i:Nat):Option (List AV):=(g id).bind (·.rows[i]?)
def ld (g:Rows) (agg:Bool) (n:Nat):AV->Option AV
 | .ptr id i off=>(rowAt g id i).bind fun cs=>part agg n (cs.drop off)
 | .dt cs=>part agg n cs
 |_=>none
def dm:BinOp->IntKind->Int->Int->Option AV
 | .add,k,a,b=>some (.int k (k.wrap (a+b)))
 | .sub,k,a,b=>some (.int k (k.wrap (a-b)))
 | .mul,k,a,b=>some (.int k (k.wrap (a*b)))
 | .quo,k,a,b=>if b=0 then none else some (.int k (k.wrap (a.tdiv b)))
 | .rem,k,a,b=>if b=0 then none else some (.int k (a.tmod b))
 | .lss,_,a,b=>some (.bool (decide (a<b)))
 | .leq,_,a,b=>some (.bool (decide (a<=b)))
 | .gtr,_,a,b=>some (.bool (decide (b<a)))
 | .geq,_,a,b=>some (.bool (decide (b<=a)))
 | .and,k,a,b=>some (.int k (k.wrap (BitVec.ofInt k.bits a&&& BitVec.ofInt k.bits b).toNat))
 | .or,k,a,b=>some (.int k (k.wrap (BitVec.ofInt k.bits a|||BitVec.ofInt k.bits b).toNat))
 | .xor,k,a,b=>some (.int k (k.wrap (BitVec.ofInt k.bits a ^^^ BitVec.ofInt k.bits b).toNat))
 |_,_,_,_=>none
def dD (op:BinOp):AV->AV->Option AV
 | .int k a,.int k' b=>if k=k' then dm op k a b else none
 |_,_=>none
def fE (left:Bool):AV->AV->Option AV
 | .int k a,.int _ b=>if b<0 then none else some (.int k (if left then k.wrap (a*2 ^ min b.toNat k.bits)else a.fdiv (2 ^ min b.toNat k.bits)))
 |_,_=>none
def dO:BinOp->ByteArray->ByteArray->Option AV
 | .add,a,b=>if a.size+b.size<=9223372036854775807 then some (.str (a++b))else none
 | .lss,a,b=>some (.bool (Op.bytesLess a.toList b.toList))
 | .leq,a,b=>some (.bool (Op.bytesLess a.toList b.toList||(a.toList==b.toList)))
 | .gtr,a,b=>some (.bool !(Op.bytesLess a.toList b.toList||(a.toList==b.toList)))
 | .geq,a,b=>some (.bool !(Op.bytesLess a.toList b.toList))
 |_,_,_=>none
def cK (op:BinOp):AV->AV->Option AV
 | .str a,.str b=>dO op a b
 |_,_=>none
def fa:TS->AV->AV->Option Bool
 | .tI,.int k a,.int k' b=>if k=k' then some (decide (a=b))else none
 | .tB,.bool a,.bool b=>some (a==b)
 | .tS,.str a,.str b=>some (decide (a=b))
 |_,_,_=>none
def eF:List TS->List AV->List AV->Option Bool
 |[],[],[]=>some true
 |t::ts,a::r,b::s=>match fa t a b,eF ts r s with
  |some x,some y=>some (x&&y)
  |_,_=>none
 |_,_,_=>none
def db (neg b:Bool):Bool:=if neg then !b else b
def cI:AV->Option Bool
 | .bS=>some true
 | .own _ _ _=>some false
 | .sl (_::_)=>some false
 |_=>none
def cH:AV->Option Bool
 | .iJ=>some true
 | .fn _ _=>some false
 |_=>none
def Kg:AV->Option Bool
 | .gE=>some true
 | .ptr .. | .dt _=>some false
 |_=>none
def dH (LJ:Bool) (x:AV):Option Bool:=if LJ then cH x else cI x
def dw (len:Nat):Option AV->Option Nat
 |none=>some len
 |some (.int _ n)=>if 0<=n/\n<=len then some n.toNat else none
 |_=>none
def dx (h:Nat):Option AV->Option Nat
 |none=>some 0
 |some (.int _ n)=>if 0<=n/\n<=h then some n.toNat else none
 |_=>none
def bz (g:Rows) (sz:Nat) (x:AV) (lo hi:Option AV):Option AV:=
 match x with
 | .bS=>(dw 0 hi).bind fun h=>(dx h lo).map fun _=>.bS
 | .sl rows=>(dw rows.length hi).bind fun h=>(dx h lo).bind fun l=>if ∀cs∈rows,cs.length=sz then some (.sl ((rows.drop l).take (h-l)))else none
 | .own id off len=>(g id).bind fun r=>(dw len hi).bind fun h=>(dx h lo).bind fun l=>if r.sz=sz then some (.own id (off+l) (h-l))else none
 |_=>none
def aQ (x:AV) (lo hi:Option AV):Option AV:=
 match x with
 | .str s=>(dw s.size hi).bind fun h=>(dx h lo).map fun l=>.str (s.extract l h)
 |_=>none
def EF (off:Nat):AV->Option AV
 | .ptr id i o=>some (.ptr id i (o+off))
 | .dt cs=>some (.dt (cs.drop off))
 |_=>none
def bx (g:Rows) (sz:Nat):AV->AV->Option AV
 | .sl rows,.int _ n=>if 0<=n then(rows[n.toNat]?).bind fun cs=>if cs.length=sz then some (.dt cs)else none else none
 | .own id off len,.int _ n=>if 0<=n/\n<len then(g id).bind fun r=>if r.sz=sz then some (.ptr id (off+n.toNat) 0)else none else none
 |_,_=>none
def cz (len sz:Nat):AV->AV->Option AV
 | .ptr id r off,.int _ n=>if 0<=n/\n<len then some (.ptr id r (off+n.toNat*sz))else none
 | .dt cs,.int _ n=>if 0<=n/\n<len then some (.dt (cs.drop (n.toNat*sz)))else none
 |_,_=>none
def cD:AV->AV->Option AV
 | .str s,.int _ n=>if 0<=n then(s[n.toNat]?).map fun b=>.int .u8 b.toNat else none
 |_,_=>none
def cC (agg:Bool) (len n:Nat):AV->AV->Option AV
 | .agg cs,.int _ i=>if 0<=i/\i<len then part agg n (cs.drop (i.toNat*n))else none
 |_,_=>none
def dF:AV->Option Nat
 | .bS=>some 0
 | .sl rows=>some rows.length
 | .own _ _ n=>some n
 |_=>none
def dI:AV->Option AV
 | .bool b=>some (.bool !b)
 |_=>none
def dG:AV->Option AV
 | .int k n=>some (.int k (k.wrap (0-n)))
 |_=>none
def cw (k:IntKind):AV->Option AV
 | .int _ n=>some (.int k (k.wrap n))
 |_=>none
def bC:AV->Option AV
 | .str s=>some (.str s)
 |_=>none
def cJ:AV->AV->AV->Option AV
 | .bool c,a,b=>some (if c then a else b)
 |_,_,_=>none
def dE:AV->Option AV
 | .ptr id i o=>some (.ptr id i o)
 | .dt cs=>some (.dt cs)
 |_=>none
def bw (agg:Bool) (off n:Nat):AV->Option AV
 | .agg cs=>if off+n<=cs.length then part agg n (cs.drop off)else none
 |_=>none
def az (i:Nat):AV->Option AV
 | .gn vs=>vs[i]?
 |_=>none
def cF:AV->Option AV
 | .str s=>some (.int .i64 s.size)
 |_=>none
def rowOf (sz:Nat) (v:AV):Option (List AV):=if v.cells.length=sz/\v.cells.all AV.cell then some v.cells else none
def cr (v:AV):Option (List AV):=if v.cells.all AV.cell then some v.cells else none
def rowsOf (sz:Nat):List AV->Option (List (List AV))
 |[]=>some []
 |v::r=>(rowOf sz v).bind fun c=>(rowsOf sz r).map fun cs=>c::cs
def bZ:List AV->List (Nat×Nat×AV)->Option (List AV)
 |cs,[]=>some cs
 |cs,(off,n,v)::r=>if v.cells.length=n/\off+n<=cs.length/\v.cells.all AV.cell then bZ (cs.take off++v.cells++cs.drop (off+n)) r else none
def dn:Nat:=16777216
def fD (zero:List K):AV->AV->Option (Nat×Row)
 | .int _ l,.int _ c=>if 0<=l/\l<=c/\c<=dn then some (l.toNat,⟨true,zero.length,List.replicate l.toNat (zero.map K.av)⟩)else none
 |_,_=>none
def tC:Nat:=1000000000
def MK.ks (m:MK):Nat:=m.ts.length
def MK.ua (m:MK):Nat:=tC+m.ks
def AV.isAgg:AV->Bool
 | .agg _=>true
 |_=>false
def gI (m:MK) (key:List AV):List (List AV)->Nat->Option (Option Nat)
 |[],_=>some none
 |r::l,i=>match eF m.ts key (r.take m.ks)with
  |some true=>some (some i)
  |some false=>gI m key l (i+1)
  |none=>none
def dy (g:Rows) (m:MK):AV->Option (Id×Row)
 | .map id m'=>if m'=m then(g id).map fun r=>(id,r)else none
 |_=>none
def gu (m:MK) (k:AV) (rows:List (List AV)):Option (Option Nat):=if k.isAgg=m.ka/\k.cells.length=m.ks/\k.cells.all AV.cell then gI m k.cells rows 0 else none
def dC (m:MK) (z:K) (rows:List (List AV)):Option Nat->Option AV
 |some i=>(rows[i]?).bind fun cs=>cs[m.ks]?
 |none=>some z.av
def bp (q:MQ) (vs:List AV) (g:Rows) (id:Id):Option (AV×Option Row):=
 match q,vs with
 | .new m,[]=>some (.map id m,some ⟨true,m.ua,[]⟩)
 | .look m ok z,[x,k]=>(dy g m x).bind fun p=>(gu m k p.2.rows).bind fun fi=>(dC m z p.2.rows fi).map fun v=>(if ok then .gn [v,.bool fi.isSome]else v,none)
 | .len m,[x]=>(dy g m x).map fun p=>(.int .i64 p.2.rows.length,none)
 |_,_=>none
def qC:Nat:=2000000000
def cG:AV->Option Nat
 | .int _ n=>if 0<=n/\n<=1048576 then some n.toNat else none
 |_=>none
def cE (g:Rows):AV->Option AV
 | .qx id=>(g id).map fun r=>.int .i64 r.rows.length
 |_=>none
def dK (g:Rows):AV->AV->Option Rows
 | .qx id,v=>(g id).bind fun r=>if r.w/\qC+r.rows.length<r.sz/\v.cell then some (bD g id {r with rows:=r.rows++[[v]]})else none
 |_,_=>none
def dJ (g:Rows):AV->Option (AV×Rows)
 | .qx id=>(g id).bind fun r=>match r.rows with
  |[v]::rest=>if r.w then some (v,bD g id {r with rows:=rest})else none
  |_=>none
 |_=>none
def du (rows:List (List AV)) (e:List AV):Option Nat->List (List AV)
 |some i=>rows.set i e
 |none=>rows++[e]
def dz (rows:List (List AV)):Option Nat->List (List AV)
 |some i=>rows.eraseIdx i
 |none=>rows
def br (q:MW) (vs:List AV) (g:Rows):Option Rows:=
 match q,vs with
 | .set m,[x,k,v]=>(dy g m x).bind fun p=>(gu m k p.2.rows).bind fun fi=>if p.2.w/\v.cell/\v.isAgg=false then some (bD g p.1 {p.2 with rows:=du p.2.rows (k.cells++[v]) fi})else none
 | .del m,[x,k]=>(dy g m x).bind fun p=>(gu m k p.2.rows).bind fun fi=>if p.2.w then some (bD g p.1 {p.2 with rows:=dz p.2.rows fi})else none
 |_,_=>none
def ef (o:gy) (ρ:O->AV) (g:Rows) (id:Id):Option (AV×Option Row):=
 match o with
 | .dq x=>some (ρ x,none)
 | .pick c a b=>(cJ (ρ c) (ρ a) (ρ b)).map (·,none)
 | .new zero=>some (.ptr id 0 0,some ⟨true,zero.length,[zero.map K.av]⟩)
 | .box x=>(cr (ρ x)).map fun cs=>(.ptr id 0 0,some ⟨true,cs.length,[cs]⟩)
 | .build zero parts=>(bZ (zero.map K.av) (parts.map fun(o,n,x)=>(o,n,ρ x))).map fun cs=>(.agg cs,none)
 | .lr sz len parts=>(rowsOf sz (parts.map ρ)).map fun rs=>(.own id 0 len,some ⟨true,sz,rs⟩)
 | .load agg n a=>(ld g agg n (ρ a)).map (·,none)
 | .AI x=>(dE (ρ x)).map (·,none)
 | .bin op _ x y=>(dD op (ρ x) (ρ y)).map (·,none)
 | .sh left x y=>(fE left (ρ x) (ρ y)).map (·,none)
 | .KW op x y=>(cK op (ρ x) (ρ y)).map (·,none)
 | .MJ neg t x y=>(fa t (ρ x) (ρ y)).map fun b=>(.bool (db neg b),none)
 | .Sx neg ts x y=>match ρ x,ρ y with
  | .agg xs,.agg ys=>(eF ts xs ys).map fun b=>(.bool (db neg b),none)
  |_,_=>none
 | .QN neg LJ x=>(dH LJ (ρ x)).map fun b=>(.bool (db neg b),none)
 | .Sy neg x=>(Kg (ρ x)).map fun b=>(.bool (db neg b),none)
 | .not x=>(dI (ρ x)).map (·,none)
 | .neg x=>(dG (ρ x)).map (·,none)
 | .conv k x=>(cw k (ρ x)).map (·,none)
 | .ES x=>(bC (ρ x)).map (·,none)
 | .slice sz x lo hi=>(bz g sz (ρ x) (lo.map ρ) (hi.map ρ)).map (·,none)
 | .zO x lo hi=>(aQ (ρ x) (lo.map ρ) (hi.map ρ)).map (·,none)
 | .fx off x=>(EF off (ρ x)).map (·,none)
 | .field agg off n x=>(bw agg off n (ρ x)).map (·,none)
 | .ea sz x i=>(bx g sz (ρ x) (ρ i)).map (·,none)
 | .LD len sz x i=>(cz len sz (ρ x) (ρ i)).map (·,none)
 | .LG x i=>(cD (ρ x) (ρ i)).map (·,none)
 | .eO agg len n x i=>(cC agg len n (ρ x) (ρ i)).map (·,none)
 | .extract i x=>(az i (ρ x)).map (·,none)
 | .len x=>(dF (ρ x)).map fun(n:Nat)=>(AV.int .i64 (n:Int),none)
 | .LO x=>(cF (ρ x)).map (·,none)
 | .LV f di=>some (.fn f (di.map ρ),none)
 | .LW f first=>some (.tY f (first.map ρ),none)
 | .jJ zero l c=>(fD zero (ρ l) (ρ c)).map fun(n,r)=>(.own id 0 n,some r)
 | .mq q xs=>bp q (xs.map ρ) g id
 | .Jp x=>(cG (ρ x)).map fun n=>(.qx id,some ⟨true,qC+n,[]⟩)
 | .Jf x=>(cE g (ρ x)).map (·,none)
 |_=>none
def bj (g:Rows):AV->Option (List (List AV))
 | .bS=>some []
 | .sl rows=>some rows
 | .own id off len=>(g id).bind fun r=>if off+len<=r.rows.length then some ((r.rows.drop off).take len)else none
 |_=>none
def cq (cs:List AV) (off:Nat) (xs:List AV):List AV:=cs.take off++xs++cs.drop (off+xs.length)
def bB (g:Rows) (n:Nat) (v:AV):AV->Option Rows
 | .ptr id i off=>(g id).bind fun r=>(r.rows[i]?).bind fun cs=>
  if r.w/\v.cells.length=n/\v.cells.all AV.cell/\off+n<=cs.length then some (bD g id {r with rows:=r.rows.set i (cq cs off v.cells)})else none
 |_=>none
def aJ (g:Rows) (id:Id) (sz:Nat) (x:AV) (ys:List (List AV)):Option (AV×Rows):=
 match x with
 | .bS=>match ys with
  |[]=>some (.bS,g)
  |y::r=>if (y::r).length<=dn/\(y::r).all (fun c=>c.length==sz&&c.all AV.cell)then some (.own id 0 (y::r).length,bD g id ⟨true,sz,y::r⟩)else none
 | .own i 0 len=>(g i).bind fun r=>
  if r.w/\r.sz=sz/\len=r.rows.length/\len+ys.length<=dn/\ys.all (fun c=>c.length==sz&&c.all AV.cell)then some (.own id 0 (len+ys.length),bD (bL g i) id ⟨true,sz,r.rows++ys⟩)else none
 |_=>none
def FG (g:Rows) (sz:Nat) (x:AV) (ys:List (List AV)):Option (AV×Rows):=
 match x with
 | .own i off len=>(g i).bind fun r=>
  if r.w/\r.sz=sz/\off+len<=r.rows.length/\ys.all (fun c=>c.length==sz&&c.all AV.cell)then
   some (.int .i64 (min ys.length len:Nat),bD g i {r with rows:=r.rows.take off++ys.take (min ys.length len)++r.rows.drop (off+min ys.length len)})else none
 |_=>none
def bu (g:Rows) (zero:List K) (x:AV):Option Rows:=
 match x with
 | .bS=>some g
 | .own i off len=>(g i).bind fun r=>
  if r.w/\r.sz=zero.length/\off+len<=r.rows.length then
   some (bD g i {r with rows:=r.rows.take off++List.replicate len (zero.map K.av)++r.rows.drop (off+len)})else none
 |_=>none
def e9 (o:gy) (ρ:O->AV) (g:Rows) (id:Id):Option (AV×Rows):=
 match o with
 | .store n a x=>(bB g n (ρ x) (ρ a)).map fun g'=>(.undef,g')
 | .append sz x y=>(bj g (ρ y)).bind fun ys=>aJ g id sz (ρ x) ys
 | .copy sz x y=>(bj g (ρ y)).bind fun ys=>FG g sz (ρ x) ys
 | .clear zero x=>(bu g zero (ρ x)).map fun g'=>(.undef,g')
 | .mw q xs=>(br q (xs.map ρ) g).map fun g'=>(.undef,g')
 |_=>none
def uv:AV->List AV->Option (Nat×List AV)
 | .fn f di,l=>some (f,l++di)
 | .tY f first,l=>some (f,first++l)
 |_,_=>none
abbrev fQ:=Nat->List AV->au->(AV->au->Prop)->Prop
mutual
def fz (g:Rows):Nat->AV->Option AV
 |0,_=>none
 |n+1,a=>match a with
  | .own id off len=>match g id with
   |some r=>if r.w then(if off+len<=r.rows.length then(ew g n ((r.rows.drop off).take len)).map AV.sl else none)else none
   |none=>none
  | .ptr id i off=>match g id with
   |some r=>if r.w then(match r.rows[i]? with
    |some cs=>(de g n (cs.drop off)).map AV.dt
    |none=>none)else none
   |none=>none
  | .agg cs=>(de g n cs).map AV.agg
  | .gn vs=>(de g n vs).map AV.gn
  | .fn f di=>if di.all AV.cell then(de g n di).map (AV.fn f)else none
  | .map _ _| .tY _ _| .qx _=>none
  |v=>some v
 termination_by n _=>(n,0)
def de (g:Rows):Nat->List AV->Option (List AV)
 |n,[]=>some []
 |n,a::r=>match fz g n a with
  |some b=>(de g n r).map (b::·)
  |none=>none
 termination_by n l=>(n,l.length+1)
def ew (g:Rows):Nat->List (List AV)->Option (List (List AV))
 |n,[]=>some []
 |n,c::r=>match de g n c with
  |some b=>(ew g n r).map (b::·)
  |none=>none
 termination_by n l=>(n,(l.map (fun c=>c.length+2)).sum+1)
 decreasing_by all_goals simp_wf;try omega
end
mutual
def gq (g:Rows):Nat->AV->Option AV
 |0,_=>none
 |n+1,a=>match a with
  | .own id off len=>match g id with
   |some r=>if r.w then(if off+len<=r.rows.length then(gU g n ((r.rows.drop off).take len)).map AV.sl else none)else none
   |none=>none
  | .ptr id i off=>match g id with
   |some r=>if r.w then(match r.rows[i]? with
    |some cs=>(eB g n (cs.drop off)).map AV.dt
    |none=>none)else none
   |none=>none
  | .agg cs=>(eB g n cs).map AV.agg
  | .gn vs=>(eB g n vs).map AV.gn
  | .int k m=>some (.int k m)
  | .bool b=>some (.bool b)
  | .str s=>some (.str s)
  | .bS=>some .bS
  | .gE=>some .gE
  | .iJ=>some .iJ
  | .iT=>some .iT
  |_=>none
 termination_by n _=>(n,0)
def eB (g:Rows):Nat->List AV->Option (List AV)
 |n,[]=>some []
 |n,a::r=>match gq g n a with
  |some b=>(eB g n r).map (b::·)
  |none=>none
 termination_by n l=>(n,l.length+1)
def gU (g:Rows):Nat->List (List AV)->Option (List (List AV))
 |n,[]=>some []
 |n,c::r=>match eB g n c with
  |some b=>(gU g n r).map (b::·)
  |none=>none
 termination_by n l=>(n,(l.map (fun c=>c.length+2)).sum+1)
 decreasing_by all_goals simp_wf;try omega
end
def dR (g:Rows):Rows:=fun id=>(g id).map fun r=>{r with w:=true}
def PC (X:fQ) (f:Nat) (args:List AV) (σ:au) (K:AV->Prop):Prop:=
 X f args ⟨ro σ.get,σ.next⟩ fun r σ'=>∃r',fz σ'.get 6 r=some r'/\K r'
def PCv (X:fQ) (f:Nat) (args:List AV) (σ:au) (K:AV->Prop):Prop:=
 ∃eS,de (dR σ.get) 6 args=some eS/\X f eS ⟨fun _=>none,σ.next⟩ fun r σ'=>∃r',gq σ'.get 6 r=some r'/\K r'
def ft (X:fQ) (f:Nat) (args:List AV) (σ:au) (K:AV->Prop):Prop:=PC X f args σ K∨PCv X f args σ K
def aA (g:Option (Nat×Bool)) (env:Env):Bool:=
 match g with
 |none=>true
 |some (t,b)=>match env t with
  | .bool c=>c==b
  |_=>false
def AV.plain:AV->Bool
 | .int .. | .bool _| .str _| .bS| .gE| .iJ| .iT=>true
 |_=>false
def CM (X:fQ) (f:Nat) (args:List AV) (σ:au) (sz:Nat) (rows:List (List AV)):Prop:=
 (∀c∈rows,∀a∈c,a.plain=true)/\∃eS,de (dR σ.get) 6 args=some eS/\X f eS ⟨fun _=>none,σ.next⟩ fun r σ'=>∃id,r=.own id 0 rows.length/\σ'.get id=some ⟨true,sz,rows⟩
def cm (X:fQ) (draw:Bool) (hid:List Nat) (site:Nat) (f:Nat) (args:List AV) (σ:au) (next:AV->au->Prop):Prop:=
 (∃r,ft X f args ⟨e8 hid σ.next σ.get,σ.next+1⟩ (fun r'=>r'=r)/\next r σ)∨
 (draw=false/\X f args ⟨σ.get,σ.next+1⟩ next)∨
 (hid.contains site=true/\∃sz rows,CM X f args ⟨e8 hid σ.next σ.get,σ.next+1⟩ sz rows/\next (.own ⟨site,σ.next⟩ 0 rows.length) ⟨bD σ.get ⟨site,σ.next⟩ ⟨true,sz,rows⟩,σ.next⟩)
def eV (X:fQ) (draw:Bool) (o:bH) (env:Env) (σ:au) (next:AV->au->Prop):Prop:=
 match o.op with
 | .call f args=>cm X draw o.hid o.site f (args.map (cZ env)) σ next
 | .sM x args=>match cZ env x with
  | .fn f di=>cm X draw o.hid o.site f (args.map (cZ env)++di) σ next
  | .tY f first=>cm X draw o.hid o.site f (first++args.map (cZ env)) σ next
  |_=>False
 | .store .. | .append .. | .copy .. | .clear .. | .mw .. =>match e9 o.op (cZ env) σ.get ⟨o.site,σ.next⟩with
  |some (v,g)=>next v ⟨g,σ.next⟩
  |none=>False
 |_=>match ef o.op (cZ env) (e8 o.hid σ.next σ.get) ⟨o.site,σ.next⟩with
  |some (v,some r)=>next v ⟨bD σ.get ⟨o.site,σ.next⟩ r,σ.next⟩
  |some (v,none)=>next v σ
  |none=>False
def wpOps (X:fQ) (draw:Bool):List bH->(Env->au->Prop)->Env->au->Prop
 |[],K,env,σ=>K env ⟨σ.get,σ.next+1⟩
 |o::r,K,env,σ=>
  if aA o.guard env then eV X draw o env σ fun v σ'=>wpOps X draw r K (upd env o.dst v) σ'
  else wpOps X draw r K (upd env o.dst .undef) σ
def bU:List bH->(Env->au->Prop)->Env->au->Prop
 |[],K,env,σ=>K env ⟨σ.get,σ.next+1⟩
 |o::r,K,env,σ=>o.guard=none/\match o.op with
  | .snd x y=>match dK σ.get (cZ env x) (cZ env y)with
   |some g=>bU r K (upd env o.dst .undef) ⟨g,σ.next⟩
   |none=>False
  | .Pj x=>match dJ σ.get (cZ env x)with
   |some (v,g)=>bU r K (upd env o.dst v) ⟨g,σ.next⟩
   |none=>False
  |op=>match ef op (cZ env) σ.get ⟨o.site,σ.next⟩with
   |some (v,none)=>bU r K (upd env o.dst v) σ
   |_=>False
def cX (next:Env->au->Prop) (Q:Ex->Env->au->Prop):Ex->Env->au->Prop
 | .normal=>next
 |e=>Q e
def aX (id:Nat) (Q:Ex->Env->au->Prop):Ex->Env->au->Prop
 | .exit jG=>if jG=id then Q .normal else Q (.exit jG)
 |e=>Q e
def Ft (W:(Ex->Env->au->Prop)->Env->au->Prop) (Q:Ex->Env->au->Prop):Nat->Env->au->Prop
 |0=>fun _ _=>False
 |n+1=>W (cX (Ft W Q n) Q)
def LQ (t s:Nat) (y:O) (env:Env) (n:Nat):Prop:=(∃len,env t=.own ⟨s,n⟩ 0 len)/\∀id o l,cZ env y=.own id o l->id.cV≠n
def dQ (X:fQ):VC->(Ex->Env->au->Prop)->Env->au->Prop
 | .skip,Q=>Q .normal
 | .eA draw ops,Q=>wpOps X draw ops (Q .normal)
 | .seq a b,Q=>dQ X a (cX (dQ X b Q) Q)
 | .cond c x y,Q=>fun env σ=>match cZ env c with
  | .bool b=>if b then dQ X x Q env σ else dQ X y Q env σ
  |_=>False
 | .block id c,Q=>dQ X c (aX id Q)
 | .loop c,Q=>fun env σ=>∃n,Ft (dQ X c) Q n env σ
 | .exit id,Q=>Q (.exit id)
 | .ret,Q=>Q .ret
 | .one o c,Q=>fun env σ=>if aA o.guard env then eV X false o env σ fun v σ'=>dQ X c Q (upd env o.dst v) σ' else dQ X c Q (upd env o.dst .undef) σ
 | .both a b,Q=>fun env σ=>dQ X a Q env σ/\dQ X b Q env σ
 | .loc t s y c,Q=>fun env σ=>LQ t s y env σ.next/\dQ X c Q env σ
 | .NQ ops,Q=>bU ops (Q .normal)
def gJ (env:Env) (g:Rows):nh->Option AV
 | .tmp t=>some (env t)
 | .cell agg n t=>ld g agg n (env t)
def fj (env:Env) (g:Rows):List nh->Option (List AV)
 |[]=>some []
 |r::l=>(gJ env g r).bind fun v=>(fj env g l).map (v::·)
def eX:List AV->AV
 |[v]=>v
 |l=>.gn l
def bQ (args:List AV):Env:=fun t=>args.getD t .undef
def kb (res:List nh) (K:AV->au->Prop):Ex->Env->au->Prop
 | .exit _,_,_=>False
 |_,env,σ=>∃vs,fj env σ.get res=some vs/\K (eX vs) σ
inductive jl (P:Program) (w:World) (D:Nat->Prop):AV->Value->Prop
 |int (k n):jl P w D (.int k n) (.int k n)
 |bool (b):jl P w D (.bool b) (.bool b)
 |str (s):jl P w D (.str s) (.string s)
 |bS:jl P w D .bS (.slice none 0 0)
 |gE:jl P w D .gE (.pointer none)
 |iJ:jl P w D .iJ .nilFunc
 |zL (a c):c<=maxLen->jl P w D (.sl []) (.slice a 0 c)
 |sl (rows b o n c sz) (vs:Nat->Nat->Value):rows.length=n->n<=c->c<=maxLen->D b->(∀cs∈rows,cs.length=sz)->(∀cs∈rows,∀a∈cs,a.cell=true)->
   (∀i j,i<n->j<sz->w.cell? ⟨b,o+(i*sz+j),none⟩=some (vs i j))->
   (∀i j cs a,rows[i]? =some cs->cs[j]? =some a->jl P w D a (vs i j))->jl P w D (.sl rows) (.slice (some ⟨b,o,none⟩) n c)
 |dt (cs b o) (vs:Nat->Value):D b->(∀a∈cs,a.cell=true)->(∀j,j<cs.length->w.cell? ⟨b,o+j,none⟩=some (vs j))->
   (∀j a,cs[j]? =some a->jl P w D a (vs j))->jl P w D (.dt cs) (.pointer (some ⟨b,o,none⟩))
 |agg (cs) (vs:Array Value) (f:Nat->Value):vs.size=cs.length->(∀a∈cs,a.cell=true)->(∀j,j<cs.length->vs[j]? =some (f j))->(∀j a,cs[j]? =some a->jl P w D a (f j))->jl P w D (.agg cs) (.agg vs)
 |fn (f di) (vs:Array Value) (g:Nat->Value):fS P f=true->vs.size=di.length->(∀j,j<di.length->vs[j]? =some (g j))->(∀j a,di[j]? =some a->jl P w D a (g j))->jl P w D (.fn f di) (.func (.func f) #[] vs)
 |iT:jl P w D .iT (.map none)
inductive BK where
 |map (m:MK)
 |chan (cap:Nat)
structure rL where
 b:Nat
 sz:Nat
 C:Nat
 k:Option BK
abbrev Names:=Id->Option rL
inductive dd (P:Program) (w:World) (D:Nat->Prop) (ι:Names):AV->Value->Prop
 |eM (a v):jl P w D a v->dd P w D ι a v
 |own (id off len o cap B):ι id=some B->B.k=none->len<=cap->(cap=0∨o=off*B.sz)->(off+cap)*B.sz<=B.C->cap<=maxLen->dd P w D ι (.own id off len) (.slice (some ⟨B.b,o,none⟩) len cap)
 |ptr (id i off B):ι id=some B->B.k=none->dd P w D ι (.ptr id i off) (.pointer (some ⟨B.b,i*B.sz+off,none⟩))
 |agg (cs) (vs:Array Value) (f:Nat->Value):vs.size=cs.length->(∀a∈cs,a.cell=true)->(∀j,j<cs.length->vs[j]? =some (f j))->(∀j a,cs[j]? =some a->dd P w D ι a (f j))->dd P w D ι (.agg cs) (.agg vs)
 |gn (cs) (vs:Array Value) (f:Nat->Value):vs.size=cs.length->(∀j,j<cs.length->vs[j]? =some (f j))->(∀j a,cs[j]? =some a->dd P w D ι a (f j))->dd P w D ι (.gn cs) (.tuple vs)
 |fn (f di) (vs:Array Value) (g:Nat->Value):fS P f=true->vs.size=di.length->(∀j,j<di.length->vs[j]? =some (g j))->(∀j a,di[j]? =some a->dd P w D ι a (g j))->dd P w D ι (.fn f di) (.func (.func f) #[] vs)
 |qx (id c B):ι id=some B->B.k=some (.chan c)->dd P w D ι (.qx id) (.chan (some B.b))
 |map (id m B):ι id=some B->B.k=some (.map m)->dd P w D ι (.map id m) (.map (some B.b))
 |tY (f di) (vs:Array Value) (g:Nat->Value):fS P f=true->vs.size=di.length->(∀j,j<di.length->vs[j]? =some (g j))->(∀j a,di[j]? =some a->dd P w D ι a (g j))->dd P w D ι (.tY f di) (.func (.func f) vs #[])
variable {P:Program} {w w':World} {D D':Nat->Prop} {ι ι':Names}
theorem jl.frame (hD:∀b,D b->w'.heap[b]? =w.heap[b]?) (hs:∀b,D b->D' b) {a:AV} {v:Value} (h:jl P w D a v):jl P w' D' a v:=by
 induction h with
 |int k n=>exact .int k n
 |bool b=>exact .bool b
 |str s=>exact .str s
 |bS=>exact .bS
 |gE=>exact .gE
 |iJ=>exact .iJ
 |iT=>exact .iT
 |zL a c h=>exact .zL a c h
 |sl rows b o n c sz vs h1 h2 h3 h4 h5 h5' h6 _ ih=>exact .sl rows b o n c sz vs h1 h2 h3 (hs b h4) h5 h5' (fun i j hi hj=>(World.cell?_of_block (hD b h4)).trans (h6 i j hi hj)) ih
 |dt cs b o vs h1 Oe h2 _ ih=>exact .dt cs b o vs (hs b h1) Oe (fun j hj=>(World.cell?_of_block (hD b h1)).trans (h2 j hj)) ih
 |agg cs vs f h1 h2 h3 _ ih=>exact .agg cs vs f h1 h2 h3 ih
 |fn f di vs g h1 h2 h3 _ ih=>exact .fn f di vs g h1 h2 h3 ih
theorem dd.frame (hD:∀b,D b->w'.heap[b]? =w.heap[b]?) (hs:∀b,D b->D' b) (hι:∀id B,ι id=some B->ι' id=some B) {a:AV} {v:Value} (h:dd P w D ι a v):dd P w' D' ι' a v:=by
 induction h with
 |eM a v h=>exact .eM a v (h.frame hD hs)
 |map id m B h1 h2=>exact .map id m B (hι _ _ h1) h2
 |qx id c B h1 h2=>exact .qx id c B (hι _ _ h1) h2
 |own id off len o cap B h1 h2 h3 h4 h5 h6=>exact .own id off len o cap B (hι _ _ h1) h2 h3 h4 h5 h6
 |ptr id i off B h1 h2=>exact .ptr id i off B (hι _ _ h1) h2
 |agg cs vs f h1 h2 h3 _ ih=>exact .agg cs vs f h1 h2 h3 ih
 |gn cs vs f h1 h2 _ ih=>exact .gn cs vs f h1 h2 ih
 |fn f di vs g h1 h2 h3 _ ih=>exact .fn f di vs g h1 h2 h3 ih
 |tY f di vs g h1 h2 h3 _ ih=>exact .tY f di vs g h1 h2 h3 ih
theorem dd.undef:dd P w D ι .undef Go.undef:=.gn [] #[] (fun _=>Go.undef) rfl (fun j hj=>by simp at hj) (fun j a h=>by simp at h)
theorem vK (c:K):dd P w D ι c.av c.val:=by
 cases c with
 |int k n=>exact .eM _ _ (.int k n)
 |bool b=>exact .eM _ _ (.bool b)
 |str l=>exact .eM _ _ (.str _)
 |bS=>exact .eM _ _ .bS
 |gE=>exact .eM _ _ .gE
 |iJ=>exact .eM _ _ .iJ
 |iT=>exact .eM _ _ .iT
theorem K.mv (c:K):c.av.cell=true:=by cases c<;>rfl
theorem zm {v:Value} {c:K} (h:Gz v=some c):v=c.val:=by
 unfold Gz at h
 split at h<;>simp at h<;>subst h<;>rfl
theorem dd.AH {a:AV} {v:Value} (h:dd P w D ι a v) (hc:a.cell=true):v.cells= #[v]/\(∀vs,v≠.agg vs)/\(∀vs,v≠.tuple vs):=by
 cases h with
 |eM a v h=>cases h<;>simp_all [AV.cell,Value.cells]
 |own=>simp[Value.cells]
 |map=>simp[Value.cells]
 |qx=>simp[Value.cells]
 |ptr=>simp[Value.cells]
 |agg=>simp[AV.cell]at hc
 |gn=>simp[AV.cell]at hc
 |fn=>simp[Value.cells]
 |tY=>simp[Value.cells]
theorem dd.cells {a:AV} {v:Value} (h:dd P w D ι a v) (ha:a.cells.all AV.cell=true):v.cells.size=a.cells.length/\∃f:Nat->Value,(∀j,j<a.cells.length->v.cells[j]? =some (f j))/\∀j x,a.cells[j]? =some x->dd P w D ι x (f j):=by
 have one:∀(a:AV) (v:Value),a.cell=true->a.cells=[a]->dd P w D ι a v->v.cells.size=a.cells.length/\∃f:Nat->Value,(∀j,j<a.cells.length->v.cells[j]? =some (f j))/\∀j x,a.cells[j]? =some x->dd P w D ι x (f j):=by
  intro a v hc dS h
  obtain⟨h1,_,_⟩:=h.AH hc
  rw[h1,dS]
  refine⟨rfl,fun _=>v,fun j hj=>?_,fun j x hx=>?_⟩
  ·have:j=0:=by simp at hj;omega
   subst this;rfl
  ·cases j with
   |zero=>simp at hx;subst hx;exact h
   |succ j=>simp at hx
 cases h with
 |eM a v h=>
  cases h with
  |agg cs vs f h1 h2 h3 h4=>exact⟨h1,f,h3,fun j x hx=>.eM _ _ (h4 j x hx)⟩
  |_=>exact one _ _ rfl rfl (.eM _ _ (by constructor<;>assumption))
 |own id off len o cap B h1 h2 h3 h4 h5 h6=>exact one _ _ rfl rfl (.own id off len o cap B h1 h2 h3 h4 h5 h6)
 |ptr id i off B h1 h2=>exact one _ _ rfl rfl (.ptr id i off B h1 h2)
 |map id m B h1 h2=>exact one _ _ rfl rfl (.map id m B h1 h2)
 |qx id c B h1 h2=>exact one _ _ rfl rfl (.qx id c B h1 h2)
 |agg cs vs f h1 h2 h3 h4=>exact⟨h1,f,h3,h4⟩
 |gn cs vs f h1 h2 h3=>simp[AV.cells,AV.cell]at ha
 |fn f di vs g h1 h2 h3 h4=>exact one _ _ rfl rfl (.fn f di vs g h1 h2 h3 h4)
 |tY f di vs g h1 h2 h3 h4=>exact one _ _ rfl rfl (.tY f di vs g h1 h2 h3 h4)
structure kV (P:Program) (w:World) (D:Nat->Prop) (ι:Names) (B:rL) (r:Row):Prop where
 sz:B.sz=r.sz
 wS:∃cells T,w.heap[B.b]? =some (.cells cells T (0,0))/\cells.size=B.C
 fits:r.rows.length*r.sz<=B.C
 len:∀cs∈r.rows,cs.length=r.sz
 flat:∀cs∈r.rows,∀a∈cs,a.cell=true
 at_:∀i j cs a,r.rows[i]? =some cs->cs[j]? =some a->∃v,w.cell? ⟨B.b,i*r.sz+j,none⟩=some v/\dd P w D ι a v
def KL (es:Array MapEntry) (clock:Nat):Prop:=(∀x∈es.toList,x.born<clock)/\(es.toList.map (·.born)).Nodup
def MF (P:Program) (w:World) (D:Nat->Prop) (ι:Names) (B:rL) (m:MK) (r:Row):Prop:=
 ∃(es:Array MapEntry) (clock:Nat),w.heap[B.b]? =some (.map es clock)/\es.size=r.rows.length/\((∀cs∈r.rows,cs.length=m.ks+1)/\KL es clock)/\
  ∀(i:Nat) (cs:List AV),r.rows[i]? =some cs->∃(e:MapEntry) (kv vv:AV),es[i]? =some e/\part m.ka m.ks cs=some kv/\cs[m.ks]? =some vv/\dd P w D ι kv e.key/\dd P w D ι vv e.val
def HH (P:Program) (w:World) (D:Nat->Prop) (ι:Names) (B:rL) (c:Nat) (r:Row):Prop:=
 ∃(buf:Array Value) (s q:Nat),w.heap[B.b]? =some (.chan c buf false s q false)/\buf.size=r.rows.length/\
  ∀(i:Nat) (cs:List AV),r.rows[i]? =some cs->∃(a:AV) (u:Value),cs=[a]/\buf[i]? =some u/\dd P w D ι a u
structure gT (P:Program) (w:World) (D:Nat->Prop) (ι:Names) (B:rL) (r:Row):Prop where
 sz:B.sz=r.sz
 flat:∀cs∈r.rows,∀a∈cs,a.cell=true
 row:B.k=none->kV P w D ι B r
 map:∀m,B.k=some (.map m)->r.sz=m.ua/\MF P w D ι B m r
 chan:∀c,B.k=some (.chan c)->r.sz=qC+c/\HH P w D ι B c r
theorem kV.obj {B:rL} {r:Row} (R:kV P w D ι B r) (h:B.k=none):gT P w D ι B r:=⟨R.sz,R.flat,fun _=>R,fun m hm=>(by rw[h]at hm;cases hm),fun m hm=>by rw[h]at hm;cases hm⟩
theorem gT.flag {B:rL} {r:Row} (R:gT P w D ι B r) (b:Bool):gT P w D ι B {r with w:=b}:=⟨R.sz,R.flat,fun h=>⟨R.sz,(R.row h).wS,(R.row h).fits,(R.row h).len,R.flat,(R.row h).at_⟩,R.map,R.chan⟩
theorem gT.LY {B:rL} {r:Row} (R:gT P w D ι B r) {c:Array Value} {T:TypeId} {z:Nat×Nat} (h:w.heap[B.b]? =some (.cells c T z)):B.k=none:=by
 cases hk:B.k with
 |none=>rfl
 |some m=>
  cases m with
  |map m=>obtain⟨_,es,c,h3,_⟩:=R.map m hk;rw[h]at h3;cases h3
  |chan c=>obtain⟨_,buf,s,q,h3,_⟩:=R.chan c hk;rw[h]at h3;cases h3
theorem gT.lt {B:rL} {r:Row} (R:gT P w D ι B r):B.b<w.heap.size:=by
 cases h:B.k with
 |none=>
  obtain⟨c,T,h3,_⟩:=(R.row h).wS
  exact(Array.getElem?_eq_some_iff.1 h3).1
 |some m=>
  cases m with
  |map m=>obtain⟨_,es,c,h3,_⟩:=R.map m h;exact(Array.getElem?_eq_some_iff.1 h3).1
  |chan c=>obtain⟨_,buf,s,q,h3,_⟩:=R.chan c h;exact(Array.getElem?_eq_some_iff.1 h3).1
structure gx (P:Program) (hs:Nat) (D:Nat->Prop) (ι:Names) (g:Rows) (w:World):Prop where
 lo:hs<=w.heap.size
 dead:∀b,D b->b<w.heap.size
 row:∀id r,g id=some r->∃B,ι id=some B/\gT P w D ι B r/\(r.w=true->hs<=B.b)/\(r.w=true->¬D B.b)
 inj:∀id jG r r' B B',g id=some r->g jG=some r'->r.w=true->ι id=some B->ι jG=some B'->B.b=B'.b->id=jG
def Used (ι:Names) (n:Nat) (U:Nat->Prop):Prop:=∀id,ι id≠none->id.cV<n∨(id.cV=n/\U id.site)
structure Step (hs:Nat) (D:Nat->Prop) (ι:Names) (w:World) (D':Nat->Prop) (ι':Names) (w':World):Prop where
 below:Below hs w w'
 qN:∀b,D b->w'.heap[b]? =w.heap[b]?
 dead:∀b,D b->D' b
 names:∀id B,ι id=some B->ι' id=some B
 new:∀b,D' b->D b∨hs<=b
theorem Step.refl (hs:Nat) (D:Nat->Prop) (ι:Names) (w:World):Step hs D ι w D ι w:=⟨Below.refl _ _,fun _ _=>rfl,fun _ h=>h,fun _ _ h=>h,fun _ h=>.inl h⟩
theorem Step.trans {hs:Nat} {D D' D'':Nat->Prop} {ι ι' Sv:Names} {w w' KF:World} (h:Step hs D ι w D' ι' w') (k:Step hs D' ι' w' D'' Sv KF):Step hs D ι w D'' Sv KF:=
 ⟨h.below.trans k.below,fun b hb=>(k.qN b (h.dead b hb)).trans (h.qN b hb),fun b hb=>k.dead b (h.dead b hb),fun id B hB=>k.names id B (h.names id B hB),fun b hb=>by
  rcases k.new b hb with hb|hb
  ·exact h.new b hb
  ·exact .inr hb⟩
theorem Step.rep {hs:Nat} {D D':Nat->Prop} {ι ι':Names} {w w':World} (h:Step hs D ι w D' ι' w') {a:AV} {v:Value} (hr:dd P w D ι a v):dd P w' D' ι' a v:=hr.frame h.qN h.dead h.names
theorem dL {k n} {v:Value} (h:dd P w D ι (.int k n) v):v=.int k n:=by
 cases h with
 |eM _ _ h=>cases h;rfl
theorem fe {b} {v:Value} (h:dd P w D ι (.bool b) v):v=.bool b:=by
 cases h with
 |eM _ _ h=>cases h;rfl
theorem fI {s} {v:Value} (h:dd P w D ι (.str s) v):v=.string s:=by
 cases h with
 |eM _ _ h=>cases h;rfl
theorem jg {v:Value} (h:dd P w D ι .bS v):v=.slice none 0 0:=by
 cases h with
 |eM _ _ h=>cases h;rfl
theorem vL {v:Value} (h:dd P w D ι .iJ v):v=.nilFunc:=by
 cases h with
 |eM _ _ h=>cases h;rfl
theorem iu {cs} {v:Value} (h:dd P w D ι (.agg cs) v):∃(vs:Array Value) (f:Nat->Value),v=.agg vs/\vs.size=cs.length/\(∀a∈cs,a.cell=true)/\(∀j,j<cs.length->vs[j]? =some (f j))/\∀j a,cs[j]? =some a->dd P w D ι a (f j):=by
 cases h with
 |eM _ _ h=>
  cases h with
  |agg cs vs f h1 h2 h3 h4=>exact⟨vs,f,rfl,h1,h2,h3,fun j a h=>.eM _ _ (h4 j a h)⟩
 |agg cs vs f h1 h2 h3 h4=>exact⟨vs,f,rfl,h1,h2,h3,h4⟩
theorem tZ {cs} {v:Value} (h:dd P w D ι (.gn cs) v):∃(vs:Array Value) (f:Nat->Value),v=.tuple vs/\vs.size=cs.length/\(∀j,j<cs.length->vs[j]? =some (f j))/\∀j a,cs[j]? =some a->dd P w D ι a (f j):=by
 cases h with
 |eM _ _ h=>cases h
 |gn cs vs f h1 h2 h3=>exact⟨vs,f,rfl,h1,h2,h3⟩
theorem zE {f di} {v:Value} (h:dd P w D ι (.fn f di) v):∃(vs:Array Value) (g:Nat->Value),v=.func (.func f) #[] vs/\fS P f=true/\vs.size=di.length/\(∀j,j<di.length->vs[j]? =some (g j))/\∀j a,di[j]? =some a->dd P w D ι a (g j):=by
 cases h with
 |eM _ _ h=>
  cases h with
  |fn f di vs g h1 h2 h3 h4=>exact⟨vs,g,rfl,h1,h2,h3,fun j a h=>.eM _ _ (h4 j a h)⟩
 |fn f di vs g h1 h2 h3 h4=>exact⟨vs,g,rfl,h1,h2,h3,h4⟩
theorem JI {v:Value} (h:dd P w D ι .gE v):v=.pointer none:=by
 cases h with
 |eM _ _ h=>cases h;rfl
theorem B7 {v:Value} (h:dd P w D ι .iT v):v=.map none:=by
 cases h with
 |eM _ _ h=>cases h;rfl
theorem Mi {f di} {v:Value} (h:dd P w D ι (.tY f di) v):∃(vs:Array Value) (g:Nat->Value),v=.func (.func f) vs #[]/\fS P f=true/\vs.size=di.length/\(∀j,j<di.length->vs[j]? =some (g j))/\∀j a,di[j]? =some a->dd P w D ι a (g j):=by
 cases h with
 |eM _ _ h=>cases h
 |tY f di vs g h1 h2 h3 h4=>exact⟨vs,g,rfl,h1,h2,h3,h4⟩
theorem iF {id off len} {v:Value} (h:dd P w D ι (.own id off len) v):∃o cap B,v=.slice (some ⟨B.b,o,none⟩) len cap/\ι id=some B/\len<=cap/\(cap=0∨o=off*B.sz)/\(off+cap)*B.sz<=B.C/\cap<=maxLen/\B.k=none:=by
 cases h with
 |eM _ _ h=>cases h
 |own id off len o cap B h1 h2 h3 h4 h5 h6=>exact⟨o,cap,B,rfl,h1,h3,h4,h5,h6,h2⟩
theorem iv {id i off} {v:Value} (h:dd P w D ι (.ptr id i off) v):∃B,v=.pointer (some ⟨B.b,i*B.sz+off,none⟩)/\ι id=some B/\B.k=none:=by
 cases h with
 |eM _ _ h=>cases h
 |ptr id i off B h1 h2=>exact⟨B,rfl,h1,h2⟩
theorem Mf {id} {v:Value} (h:dd P w D ι (.qx id) v):∃B c,v=.chan (some B.b)/\ι id=some B/\B.k=some (.chan c):=by
 cases h with
 |eM _ _ h=>cases h
 |qx id c B h1 h2=>exact⟨B,c,rfl,h1,h2⟩
theorem FB {id m} {v:Value} (h:dd P w D ι (.map id m) v):∃B,v=.map (some B.b)/\ι id=some B/\B.k=some (.map m):=by
 cases h with
 |eM _ _ h=>cases h
 |map id m B h1 h2=>exact⟨B,rfl,h1,h2⟩
theorem jS {cs} {v:Value} (h:dd P w D ι (.dt cs) v):∃b o,∃vs:Nat->Value,v=.pointer (some ⟨b,o,none⟩)/\D b/\(∀a∈cs,a.cell=true)/\(∀j,j<cs.length->w.cell? ⟨b,o+j,none⟩=some (vs j))/\∀j a,cs[j]? =some a->jl P w D a (vs j):=by
 cases h with
 |eM _ _ h=>
  cases h with
  |dt cs b o vs h1 h2 h3 h4=>exact⟨b,o,vs,rfl,h1,h2,h3,h4⟩
theorem vM {rows} {v:Value} (h:dd P w D ι (.sl rows) v):∃A c,v=.slice A rows.length c/\rows.length<=c/\c<=maxLen/\
  (rows=[]∨∃b o sz,∃vs:Nat->Nat->Value,A=some ⟨b,o,none⟩/\D b/\(∀cs∈rows,cs.length=sz)/\(∀cs∈rows,∀a∈cs,a.cell=true)/\
   (∀i j,i<rows.length->j<sz->w.cell? ⟨b,o+(i*sz+j),none⟩=some (vs i j))/\∀i j cs a,rows[i]? =some cs->cs[j]? =some a->jl P w D a (vs i j)):=by
 cases h with
 |eM _ _ h=>
  cases h with
  |zL a c h=>exact⟨a,c,rfl,Nat.zero_le _,h,.inl rfl⟩
  |sl rows b o n c sz vs h1 h2 h3 h4 h5 h5' h6 h7=>subst h1;exact⟨_,c,rfl,h2,h3,.inr ⟨b,o,sz,vs,rfl,h4,h5,h5',h6,h7⟩⟩
inductive eR:AV->Prop
 |int (k n):eR (.int k n)
 |bool (b):eR (.bool b)
 |str (s):eR (.str s)
 |bS:eR .bS
 |gE:eR .gE
 |iJ:eR .iJ
 |sl (rows):rows.length<=maxLen->(∀cs∈rows,∀a∈cs,eR a)->eR (.sl rows)
 |own (id off len):eR (.own id off len)
 |ptr (id i off):eR (.ptr id i off)
 |dt (cs):(∀a∈cs,eR a)->eR (.dt cs)
 |agg (cs):(∀a∈cs,eR a)->eR (.agg cs)
 |gn (cs):(∀a∈cs,eR a)->eR (.gn cs)
 |fn (f di):(∀a∈di,eR a)->eR (.fn f di)
 |map (id m):eR (.map id m)
 |qx (id):eR (.qx id)
 |iT:eR .iT
 |tY (f di):(∀a∈di,eR a)->eR (.tY f di)
theorem eR.len {rows:List (List AV)} (h:eR (.sl rows)):rows.length<=9223372036854775807:=by
 cases h with
 |sl _ h _=>unfold maxLen at h;omega
theorem eR.NG {cs:List AV} (h:eR (.agg cs)) {a:AV} (ha:a∈cs):eR a:=by
 cases h with
 |agg _ h=>exact h a ha
theorem eR.Bz {cs:List AV} (h:eR (.dt cs)) {a:AV} (ha:a∈cs):eR a:=by
 cases h with
 |dt _ h=>exact h a ha
theorem oj {l:List AV} {p:AV->Prop} (h:∀(j:Nat) (a:AV),l[j]? =some a->p a):∀a∈l,p a:=fun a ha=>by
 obtain⟨j,hj,rfl⟩:=List.getElem_of_mem ha
 exact h j _ (List.getElem?_eq_getElem hj)
theorem jl.Je {a:AV} {v:Value} (h:jl P w D a v):eR a:=by
 induction h with
 |int k n=>exact .int k n
 |bool b=>exact .bool b
 |str s=>exact .str s
 |bS=>exact .bS
 |gE=>exact .gE
 |iJ=>exact .iJ
 |iT=>exact .iT
 |zL a c h=>exact .sl [] (Nat.zero_le _) (fun cs h=>by cases h)
 |sl rows b o n c sz vs h1 h2 h3 h4 h5 h5' h6 _ ih=>
  exact .sl rows ai fun cs dS a ha=>by
   obtain⟨i,hi,rfl⟩:=List.getElem_of_mem dS
   obtain⟨j,hj,rfl⟩:=List.getElem_of_mem ha
   exact ih i j _ _ (List.getElem?_eq_getElem hi) (List.getElem?_eq_getElem hj)
 |dt cs b o vs h1 Oe h2 _ ih=>exact .dt cs (oj ih)
 |agg cs vs f h1 h2 h3 _ ih=>exact .agg cs (oj ih)
 |fn f di vs g h1 h2 h3 _ ih=>exact .fn f di (oj ih)
theorem dd.Je {a:AV} {v:Value} (h:dd P w D ι a v):eR a:=by
 induction h with
 |eM a v h=>exact h.Je
 |own id off len o cap B=>exact .own _ _ _
 |ptr id i off B=>exact .ptr _ _ _
 |map id m B=>exact .map _ _
 |qx id c B=>exact .qx _
 |agg cs vs f h1 h2 h3 _ ih=>exact .agg cs (oj ih)
 |gn cs vs f h1 h2 _ ih=>exact .gn cs (oj ih)
 |fn f di vs g h1 h2 h3 _ ih=>exact .fn f di (oj ih)
 |tY f di vs g h1 h2 h3 _ ih=>exact .tY f di (oj ih)
end Go.Proofs.YtgoljkjaameagaaGreat.V

namespace Go.Proofs.YtgoljkjaameagaaGreat.V
open Go.RowKit
variable {P:Program} {w w':World} {D D':Nat->Prop} {ι ι':Names}
def cQ (P:Program) (w:World) (D:Nat->Prop) (ι:Names) (env:Env) (a:Act):Prop:=∀t,dd P w D ι (env t) (a.tmps.getD t undef)
theorem qR {vs:List Value} {cs:List K} (h:vs.mapM Gz=some cs):cs.length=vs.length/\∀(j:Nat) (c:K),cs[j]? =some c->vs[j]? =some c.val:=by
 induction vs generalizing cs with
 |nil=>simp at h;subst h;simp
 |cons v r ih=>
  simp only[List.mapM_cons,Option.bind_eq_bind,Option.bind_eq_some_iff]at h
  obtain⟨c,hc,lH,dS,h⟩:=h
  simp at h;subst h
  obtain⟨h1,h2⟩:=ih dS
  refine⟨by simp[h1],fun j d hd=>?_⟩
  cases j with
  |zero=>simp at hd ⊢;subst hd;exact zm hc
  |succ j=>simp at hd ⊢;exact h2 j d hd
theorem Vj {vs:List Value} {cs:List K} (h:vs.mapM Gz=some cs):dd P w D ι (.agg (cs.map K.av)) (.agg vs.toArray):=by
 obtain⟨h1,h2⟩:=qR h
 refine .agg _ _ (fun j=>vs.getD j undef) (by simp[h1]) (fun a ha=>?_) (fun j hj=>?_) (fun j a ha=>?_)
 ·obtain⟨c,_,rfl⟩:=List.mem_map.1 ha;exact c.mv
 ·simp at hj;simp[List.getElem?_eq_getElem (show j<vs.length by omega)]
 ·simp only[List.getElem?_map,Option.map_eq_some_iff]at ha
  obtain⟨c,hc,rfl⟩:=ha
  rw[List.getD_eq_getElem?_getD,h2 j c hc];exact vK c
theorem dB {env:Env} {a:Act} {x:Operand} {y:O} (E:cQ P w D ι env a) (h:cO P x=some y):dd P w D ι (cZ env y) (a.eval x):=by
 unfold cO at h
 split at h
 ·simp at h;subst h;exact E _
 ·simp only[Option.map_eq_some_iff]at h
  obtain⟨cs,dS,rfl⟩:=h
  have:=Vj (P:=P) (w:=w) (D:=D) (ι:=ι) dS
  simpa[Act.eval,cZ]using this
 ·simp only[Option.map_eq_some_iff]at h
  obtain⟨c,hc,rfl⟩:=h
  simp only[Act.eval,cZ]
  rw[zm hc];exact vK c
 ·simp at h
 ·split at h
  ·rename_i hc
   simp at h;subst h
   simp only[Act.eval,cZ]
   exact .fn _ _ _ (fun _=>undef) hc rfl (fun j hj=>by simp at hj) (fun j a h=>by simp at h)
  ·simp at h
def nK (P:Program) (a:Act) (o:Oper) (w:World) (D:Nat->Prop) (ι:Names) (v:AV):Prop:=∃u,(execOp a.eval o).run P w=.ok (.value u) w/\dd P w D ι v u
section
variable {g:Rows} {hs:Nat} {env:Env} {a:Act} {o:Oper} {id:Id} {v:AV}
theorem Nv {x:Operand} {y:O} (E:cQ P w D ι env a) (ho:o.op=.move x∨o.op=.assign x) (hx:cO P x=some y):nK P a o w D ι (cZ env y):=by
 refine⟨a.eval x,?_,dB E hx⟩
 rcases ho with h|h<;>simp[execOp,h,go_sem]
theorem PX {c x y:Operand} {c' x' y':O} (E:cQ P w D ι env a) (ho:o.op=.pick c x y) (hc:cO P c=some c') (hx:cO P x=some x') (hy:cO P y=some y') (hv:cJ (cZ env c') (cZ env x') (cZ env y')=some v):nK P a o w D ι v:=by
 unfold cJ at hv
 split at hv
 ·rename_i b hb
  simp at hv;subst hv
  have h1:=fe (hb▸dB E hc)
  refine⟨if b then a.eval x else a.eval y,by simp only[execOp,ho,h1,asBool];rfl,?_⟩
  cases b
  ·exact dB E hy
  ·exact dB E hx
 ·simp at hv
theorem Sh {op:BinOp} {x y:Operand} {x' y':O} {t yt:TypeId} (E:cQ P w D ι env a) (ho:o.op=.binOp op t x y yt) (he:op≠.eql) (hn:op≠.neq) (hx:cO P x=some x') (hy:cO P y=some y') (hv:dD op (cZ env x') (cZ env y')=some v):nK P a o w D ι v:=by
 unfold dD at hv
 split at hv
 ·rename_i k n k' m hb rZ
  split at hv
  ·rename_i hk
   subst hk
   have h1:=dL (hb▸dB E hx)
   have h2:=dL (rZ▸dB E hy)
   have key:∀u,(binOp op t (.int k n) (.int k m)).run P w=.ok u w->(execOp a.eval o).run P w=.ok (.value u) w:=fun u hu=>by
    have e0:eqGuard op t x y (.int k n) (.int k m)=pure ():=by unfold eqGuard;cases op<;>rfl
    simp only[execOp,ho,h1,h2,e0]
    simp[go_sem,hu]
   cases op<;>simp only[dm]at hv<;>(try(simp at hv;done))<;>(try split at hv)<;>(try(simp at hv;done))<;>simp only[Option.some.injEq]at hv<;>subst hv<;>
    (refine⟨_,key _ (by simp only[binOp,ne_eq,not_true_eq_false,if_false,Op.intArith,Op.intDiv,Op.intBits,Op.intCmp, *];rfl),?_⟩)<;>
    first
     |exact .eM _ _ (.int _ _)
     |exact .eM _ _ (.bool _)
  ·simp at hv
 ·simp at hv
theorem PI {op:BinOp} {x y:Operand} {x' y':O} {t yt:TypeId} (E:cQ P w D ι env a) (ho:o.op=.binOp op t x y yt) (he:op≠.eql) (hn:op≠.neq) (hx:cO P x=some x') (hy:cO P y=some y') (hv:cK op (cZ env x') (cZ env y')=some v):nK P a o w D ι v:=by
 unfold cK at hv
 split at hv
 ·rename_i n m hb rZ
  have h1:=fI (hb▸dB E hx)
  have h2:=fI (rZ▸dB E hy)
  cases op<;>simp only[dO]at hv<;>(try(simp at hv;done))
  case add=>
   split at hv
   ·rename_i hl
    simp only[Option.some.injEq]at hv;subst hv
    exact⟨_,by simp only[execOp,ho,h1,h2];simp[eqGuard,binOp,go_sem];exact hl,.eM _ _ (.str _)⟩
   ·simp at hv
  all_goals
   simp only[Option.some.injEq]at hv;subst hv
   exact⟨_,by simp only[execOp,ho,h1,h2];simp[eqGuard,binOp,Op.stringOp,go_sem],.eM _ _ (.bool _)⟩
 ·simp at hv
theorem FE (n m:ByteArray):(n.toList==m.toList)=decide (n=m):=by
 rw[ByteArray.toList_eq,ByteArray.toList_eq]
 by_cases h:n=m
 ·subst h;simp
 ·have:n.data.toList≠m.data.toList:=fun he=>h (ByteArray.ext (Array.ext' he))
  rw[decide_eq_false h];exact beq_eq_false_iff_ne.2 this
theorem oU {t:TypeId} (h:fy P t=some .tB):P.underlying t=some .bool:=by unfold fy at h;split at h<;>simp_all
theorem oV {t:TypeId} (h:fy P t=some .tI):∃k,P.underlying t=some (.int k):=by unfold fy at h;split at h<;>simp_all
theorem oW {t:TypeId} (h:fy P t=some .tS):P.underlying t=some .string:=by unfold fy at h;split at h<;>simp_all
theorem qZ {d:Nat} {t:TypeId} {s:TS} {x y:AV} {u u':Value} {b:Bool} (hx:dd P w D ι x u) (hy:dd P w D ι y u') (hv:fa s x y=some b) (ht:fy P t=some s):(Op.equalIn (d+1) t u u').run P w=.ok b w:=by
 unfold fa at hv
 split at hv
 ·rename_i k n k' m
  split at hv
  ·rename_i hk
   subst hk
   simp at hv;subst hv
   obtain⟨q,hq⟩:=oV ht
   rw[dL hx,dL hy,run_equalIn_int _ _ _ _ _ _ _ hq];rfl
  ·simp at hv
 ·simp at hv;subst hv
  rw[fe hx,fe hy,run_equalIn_bool' _ _ _ _ _ (oU ht)]
 ·simp at hv;subst hv
  rw[fI hx,fI hy,run_equalIn_string _ _ _ _ _ (oW ht),FE]
 ·simp at hv
def fw (P:Program) (w:World) (D:Nat->Prop) (ι:Names) (xs:List AV) (vs:Array Value):Prop:=vs.size=xs.length/\∀(j:Nat) (a:AV),xs[j]? =some a->∃u,vs[j]? =some u/\dd P w D ι a u
theorem fw.part {xs:List AV} {vs:Array Value} (h:fw P w D ι xs vs) (off n:Nat) (hn:off+n<=xs.length):fw P w D ι ((xs.drop off).take n) (vs.extract off (off+n)):=by
 refine⟨by simp[h.1];omega,fun j a ha=>?_⟩
 rw[List.getElem?_take]at ha
 split at ha
 ·rename_i hj
  rw[List.getElem?_drop]at ha
  obtain⟨u,h1,h2⟩:=h.2 _ _ ha
  refine⟨u,?_,h2⟩
  rw[Array.getElem?_extract]
  rw[if_pos (by rw[h.1];omega),h1]
 ·simp at ha
theorem qD:∀{ts:List TS} {xs ys:List AV} {b:Bool},eF ts xs ys=some b->xs.length=ts.length/\ys.length=ts.length
 |[],[],[],_,_=>⟨rfl,rfl⟩
 |t::ts,x::xs,y::ys,b,h=>by
  unfold eF at h
  split at h
  ·rename_i c d h1 h2
   have:=qD h2
   simp[this.1,this.2]
  ·simp at h
 |[],[],_::_,_,h=>by simp[eF]at h
 |[],_::_,_,_,h=>by simp[eF]at h
 |_::_,[],_,_,h=>by simp[eF]at h
 |_::_,_::_,[],_,h=>by simp[eF]at h
theorem EY:∀{ts us:List TS} {xs ys:List AV} {b:Bool},eF (ts++us) xs ys=some b->∃c d,eF ts (xs.take ts.length) (ys.take ts.length)=some c/\eF us (xs.drop ts.length) (ys.drop ts.length)=some d/\b=(c&&d)
 |[],us,xs,ys,b,h=>⟨true,b,by simp[eF],by simpa using h,by simp⟩
 |t::ts,us,x::xs,y::ys,b,h=>by
  simp only[List.cons_append]at h
  unfold eF at h
  split at h
  ·rename_i c d h1 h2
   obtain⟨c',d',h3,h4,rfl⟩:=EY h2
   simp at h;subst h
   exact⟨c&&c',d',by simp[eF,h1,h3],by simpa using h4,by simp[Bool.and_assoc]⟩
  ·simp at h
 |t::ts,us,[],ys,b,h=>by simp[eF]at h
 |t::ts,us,x::xs,[],b,h=>by simp[eF]at h
theorem lY {t:TypeId} {vs:Array Value} {off:Nat} {u:Value} (ha:nr P t=some false) (hu:vs[off]? =some u):(Go.part t vs off).run P w=.ok u w:=by
 unfold nr at ha
 have hi:(isAgg t).run P w=.ok false w:=by
  split at ha<;>simp at ha
  rename_i d h1 h2 hd
  simp only[isAgg,Sem.run_bind,run_underlying hd,Result.andThen_ok]
  cases d<;>simp_all
 simp[Go.part,hi,hu]
theorem sr {t:TypeId} {b:Bool} (ha:nr P t=some b):(isAgg t).run P w=.ok b w:=by
 unfold nr at ha
 split at ha<;>simp at ha<;>subst ha<;>rename_i hd<;>simp only[isAgg,Sem.run_bind,run_underlying hd,Result.andThen_ok]<;>(try simp)
theorem run_sizeOf {t:TypeId} {n:Nat} (h:ep P t=some n):(sizeOf t).run P w=.ok n w:=by
 unfold ep at h
 simp only[Option.map_eq_some_iff]at h
 obtain⟨i,hi,rfl⟩:=h
 simp[sizeOf,typeInfo,hi]
theorem oR {t:TypeId} {vs:Array Value} {off n:Nat} (ha:nr P t=some true) (hn:ep P t=some n):(Go.part t vs off).run P w=.ok (.agg (vs.extract off (off+n))) w:=by
 simp[Go.part,sr ha,run_sizeOf hn]
theorem It (d off:Nat):eJ P (d+1) off []=some []:=rfl
theorem xO (d off:Nat) (f:Field) (r:List Field):eJ P (d+1) off (f::r)=(if f.offset=off/\f.name≠ "_" then
   match fy P f.type with
   |some t=>if nr P f.type=some false then(eJ P (d+1) (off+1) r).map (t::·)else none
   |none=>match P.underlying f.type with
    |some (.struct fs)=>if !P.stoodInHeld f.type then match eJ P d 0 fs.toList with
     |some ts=>if ep P f.type=some ts.length/\ts≠[]then(eJ P (d+1) (off+ts.length) r).map (ts++·)else none
     |none=>none else none
    |_=>none
  else none):=rfl
theorem qY:∀(d:Nat) (fs:List Field) (off:Nat) (ts:List TS),eJ P d off fs=some ts->∀(N:Nat) (_:d<=N) (xs ys:List AV) (vs us:Array Value) (b:Bool),fw P w D ι xs vs->fw P w D ι ys us->
  eF ts ((xs.drop off).take ts.length) ((ys.drop off).take ts.length)=some b->(Op.eqFields (N+1) vs us fs).run P w=.ok b w:=by
 intro d
 induction d with
 |zero=>
  intro fs off ts hf N _ xs ys vs us b _ _ he
  cases fs with
  |nil=>simp[eJ]at hf;subst hf;simp[eF]at he;subst he;simp[Op.eqFields]
  |cons f r=>simp[eJ]at hf
 |succ d ihd=>
  intro fs
  induction fs with
  |nil=>
   intro off ts hf N _ xs ys vs us b _ _ he
   rw[It]at hf;simp at hf;subst hf;simp[eF]at he;subst he;simp[Op.eqFields]
  |cons f r ih=>
   intro off ts hf N hN xs ys vs us b hx hy he
   rw[xO]at hf
   split at hf
   ·rename_i hcond
    obtain⟨ho,gP⟩:=hcond
    split at hf
    ·rename_i s hs
     split at hf
     ·rename_i tQ
      simp only[Option.map_eq_some_iff]at hf
      obtain⟨Nt,hr,rfl⟩:=hf
      obtain⟨l1,l2⟩:=qD he
      simp only[List.length_cons,List.length_take,List.length_drop]at l1 l2
      have HB:off<xs.length:=ai
      have hyo:off<ys.length:=ai
      rw[List.drop_eq_getElem_cons HB,List.drop_eq_getElem_cons hyo,List.length_cons,List.take_succ_cons,List.take_succ_cons]at he
      unfold eF at he
      split at he
      ·rename_i c d' h1 h2
       simp at he;subst he
       obtain⟨u,hu,ru⟩:=hx.2 off _ (List.getElem?_eq_getElem HB)
       obtain⟨u',CE,ru'⟩:=hy.2 off _ (List.getElem?_eq_getElem hyo)
       have:=ih (off+1) Nt hr N hN xs ys vs us d' hx hy h2
       simp only[Op.eqFields,if_pos gP,Sem.run_bind,ho,lY tQ hu,lY tQ CE,Result.andThen_ok,qZ ru ru' h1 hs,Sem.run_ite]
       cases c<;>simp[this]
      ·simp at he
     ·simp at hf
    ·split at hf
     ·rename_i fs' qG
      split at hf
      ·rename_i eb
       split at hf
       ·rename_i ts1 hts1
        split at hf
        ·rename_i fu
         simp only[Option.map_eq_some_iff]at hf
         obtain⟨Nt,hr,rfl⟩:=hf
         obtain⟨c,d',h1,h2,rfl⟩:=EY he
         obtain⟨l1,l2⟩:=qD he
         simp only[List.length_append,List.length_take,List.length_drop]at l1 l2
         have tQ:nr P f.type=some true:=by simp[nr,qG]
         have jZ:0<ts1.length:=List.length_pos_iff.2 fu.2
         have Nf:off+ts1.length<=xs.length:=ai
         have hy1:off+ts1.length<=ys.length:=ai
         rw[List.drop_take,List.drop_drop,List.drop_take,List.drop_drop]at h2
         rw[List.take_take,List.take_take]at h1
         simp only[List.length_append]at h1 h2
         rw[Nat.min_eq_left ai]at h1
         have e2:ts1.length+Nt.length-ts1.length=Nt.length:=ai
         rw[e2]at h2
         have:=ih (off+ts1.length) Nt hr N hN xs ys vs us d' hx hy h2
         have fP:=ihd fs'.toList 0 ts1 hts1 (N-1) ai _ _ _ _ c (hx.part off ts1.length Nf) (hy.part off ts1.length hy1) (by simpa[List.take_take]using h1)
         have hN':N-1+1=N:=ai
         rw[hN']at fP
         have MV:P.fieldsOf f.type=fs':=by simp[Program.fieldsOf,qG]
         simp only[Op.eqFields,if_pos gP,Sem.run_bind,ho,oR tQ fu.1,Result.andThen_ok,Sem.run_ite]
         rw[run_equalIn_struct w N f.type _ _ (by rw[MV];exact qG) (by simpa using eb),MV,fP]
         cases c<;>simp[this]
        ·simp at hf
       ·simp at hf
      ·simp at hf
     ·simp at hf
   ·simp at hf
theorem Sm {x y:Operand} {x' y':O} {t yt:TypeId} {neg:Bool} {s:TS} {b:Bool} (E:cQ P w D ι env a) (ho:o.op=.binOp (if neg then .neq else .eql) t x y yt) (hs:fy P t=some s) (hx:cO P x=some x') (hy:cO P y=some y')
  (hv:fa s (cZ env x') (cZ env y')=some b):nK P a o w D ι (.bool (db neg b)):=by
 have rx:=dB E hx
 have ry:=dB E hy
 refine⟨.bool (db neg b),?_,.eM _ _ (.bool _)⟩
 have e0:(eqGuard (if neg then .neq else .eql) t x y (a.eval x) (a.eval y)).run P w=.ok () w:=by
  unfold fa at hv
  split at hv
  ·rename_i k n k' m h1 h2
   rw[h1]at rx;rw[h2]at ry
   rw[dL rx,dL ry];unfold eqGuard;cases neg<;>simp
  ·rename_i n m h1 h2
   rw[h1]at rx;rw[h2]at ry
   rw[fe rx,fe ry];unfold eqGuard;cases neg<;>simp
  ·rename_i n m h1 h2
   rw[h1]at rx;rw[h2]at ry
   rw[fI rx,fI ry];unfold eqGuard;cases neg<;>simp
  ·simp at hv
 have e1:(binOp (if neg then .neq else .eql) t (a.eval x) (a.eval y)).run P w=.ok (.bool (db neg b)) w:=by
  have q:=qZ (d:=9999) rx ry hv hs
  unfold fa at hv
  split at hv
  ·rename_i k n k' m h1 h2
   split at hv
   ·rename_i hk
    subst hk
    simp at hv;subst hv
    rw[h1]at rx;rw[h2]at ry
    rw[dL rx,dL ry]
    cases neg<;>simp only[binOp,ne_eq,not_true_eq_false,if_false,Op.intCmp,db,if_true,Bool.false_eq_true]<;>simp[bne]<;>rfl
   ·simp at hv
  ·rename_i n m h1 h2
   rw[h1]at rx;rw[h2]at ry
   rw[fe rx,fe ry]at q ⊢
   cases neg<;>simp only[binOp,db,if_true,Bool.false_eq_true,if_false,Sem.run_bind]<;>simp[Op.equal,Op.maxDepth,q]
  ·rename_i n m h1 h2
   simp at hv;subst hv
   rw[h1]at rx;rw[h2]at ry
   rw[fI rx,fI ry]
   cases neg<;>simp[binOp,Op.stringOp,db,FE]
  ·simp at hv
 simp only[execOp,ho,Sem.run_bind,e0,e1,Result.andThen_ok,Sem.run_pure]
theorem Sj {x y:Operand} {x' y':O} {t yt:TypeId} {neg:Bool} {ts:List TS} {fs:Array Field} {xs ys:List AV} {b:Bool} (E:cQ P w D ι env a) (ho:o.op=.binOp (if neg then .neq else .eql) t x y yt) (qG:P.underlying t=some (.struct fs)) (eb:P.stoodInHeld t=false) (Lj:P.eqGuardType P.depth t=false)
  (xh:eJ P 4 0 fs.toList=some ts) (hx:cO P x=some x') (hy:cO P y=some y') (h1:cZ env x'=.agg xs) (h2:cZ env y'=.agg ys)
  (hv:eF ts xs ys=some b):nK P a o w D ι (.bool (db neg b)):=by
 obtain⟨vs,f,rx,n1,_,f1,r1⟩:=iu (h1▸dB E hx)
 obtain⟨us,f',ry,n2,_,f2,r2⟩:=iu (h2▸dB E hy)
 refine⟨.bool (db neg b),?_,.eM _ _ (.bool _)⟩
 obtain⟨l1,l2⟩:=qD hv
 have L:∀(xs:List AV) (vs:Array Value) (f:Nat->Value),vs.size=xs.length->(∀j,j<xs.length->vs[j]? =some (f j))->(∀j a,xs[j]? =some a->dd P w D ι a (f j))->fw P w D ι xs vs:=fun xs vs f h1 h2 h3=>
  ⟨h1,fun j a ha=>⟨f j,h2 j (List.getElem?_eq_some_iff.1 ha).1,h3 j a ha⟩⟩
 have q:=qY (w:=w) 4 fs.toList 0 ts xh 9998 ai xs ys vs us b (L _ _ _ n1 f1 r1) (L _ _ _ n2 f2 r2) (by simpa[List.take_of_length_le,l1,l2]using hv)
 have MV:P.fieldsOf t=fs:=by simp[Program.fieldsOf,qG]
 have q2:(Op.equal t (.agg vs) (.agg us)).run P w=.ok b w:=by
  unfold Op.equal
  rw[show Op.maxDepth=9999+1 from rfl,run_equalIn_struct w 9999 t _ _ (by rw[MV];exact qG) eb,MV,q]
 simp only[execOp,ho,Sem.run_bind,rx,ry,run_eqGuard_agg w _ _ _ _ _ _ Lj,Result.andThen_ok]
 cases neg<;>simp[binOp,q2,db]
theorem PL {x:Operand} {x':O} {t yt e:TypeId} {neg:Bool} {b:Bool} (E:cQ P w D ι env a) (ho:o.op=.binOp (if neg then .neq else .eql) t x (.const (.slice none 0 0)) yt) (ht:P.underlying t=some (.slice e)) (hx:cO P x=some x')
  (hv:cI (cZ env x')=some b):nK P a o w D ι (.bool (db neg b)):=by
 have hr:=dB E hx
 have rx:∃A n c,a.eval x=.slice A n c/\b=A.isNone:=by
  unfold cI at hv
  split at hv<;>simp at hv<;>subst hv<;>rename_i hh
  ·rw[hh]at hr;exact⟨_,_,_,jg hr,rfl⟩
  ·rw[hh]at hr;obtain⟨o,cap,B,h,_⟩:=iF hr
   exact⟨_,_,_,h,rfl⟩
  ·rw[hh]at hr
   obtain⟨A,c,h',_,_,h⟩:=vM hr
   rcases h with h|⟨b,o,sz,vs,rfl,_⟩
   ·simp at h
   ·exact⟨_,_,_,h',rfl⟩
 refine⟨.bool (db neg b),?_,.eM _ _ (.bool _)⟩
 obtain⟨A,n,c,h,rfl⟩:=rx
 have hq:(Op.equal t (.slice A n c) (.slice none 0 0)).run P w=.ok A.isNone w:=by
  unfold Op.equal
  rw[show Op.maxDepth=9999+1 from rfl,Op.equalIn]
  simp only[Sem.run_bind,run_underlying ht,Result.andThen_ok]
  cases A<;>rfl
 have hc:a.eval (.const (.slice none 0 0))=.slice none 0 0:=rfl
 simp only[execOp,ho,h,hc]
 cases neg<;>simp only[Bool.false_eq_true,if_false,if_true,Bool.not_true,Bool.not_false,eqGuard,binOp,db,Sem.run_bind,hq,Result.andThen_ok,Sem.run_pure]
theorem Sk {x:Operand} {x':O} {t yt e:TypeId} {neg:Bool} {b:Bool} (E:cQ P w D ι env a) (ho:o.op=.binOp (if neg then .neq else .eql) t x (.const (.pointer none)) yt) (ht:P.underlying t=some (.pointer e)) (hx:cO P x=some x')
  (hv:Kg (cZ env x')=some b):nK P a o w D ι (.bool (db neg b)):=by
 have hr:=dB E hx
 have rx:∃A,a.eval x=.pointer A/\b=A.isNone:=by
  unfold Kg at hv
  split at hv<;>simp at hv<;>subst hv<;>rename_i hh
  ·rw[hh]at hr;exact⟨_,JI hr,rfl⟩
  ·rw[hh]at hr;obtain⟨B,h,_⟩:=iv hr
   exact⟨_,h,rfl⟩
  ·rw[hh]at hr;obtain⟨_,_,_,h,_⟩:=jS hr
   exact⟨_,h,rfl⟩
 refine⟨.bool (db neg b),?_,.eM _ _ (.bool _)⟩
 obtain⟨A,h,rfl⟩:=rx
 have hq:(Op.equal t (.pointer A) (.pointer none)).run P w=.ok A.isNone w:=by
  unfold Op.equal
  rw[show Op.maxDepth=9999+1 from rfl,Op.equalIn]
  simp only[Sem.run_bind,run_underlying ht,Result.andThen_ok]
  cases A<;>rfl
 have hc:a.eval (.const (.pointer none))=.pointer none:=rfl
 simp only[execOp,ho,h,hc]
 cases neg<;>simp only[Bool.false_eq_true,if_false,if_true,Bool.not_true,Bool.not_false,eqGuard,binOp,db,Sem.run_bind,hq,Result.andThen_ok,Sem.run_pure]
theorem PK {x:Operand} {x':O} {t yt:TypeId} {p r:Array TypeId} {va:Bool} {neg:Bool} {b:Bool} (E:cQ P w D ι env a) (ho:o.op=.binOp (if neg then .neq else .eql) t x (.const .nilFunc) yt) (ht:P.underlying t=some (.func p r va)) (hx:cO P x=some x')
  (hv:cH (cZ env x')=some b):nK P a o w D ι (.bool (db neg b)):=by
 have hr:=dB E hx
 have rx:a.eval x=.nilFunc/\b=true∨∃f c,a.eval x=.func f #[] c/\b=false:=by
  unfold cH at hv
  split at hv<;>simp at hv<;>subst hv<;>rename_i hh
  ·rw[hh]at hr;exact .inl ⟨vL hr,rfl⟩
  ·rw[hh]at hr;obtain⟨vs,g,h,_⟩:=zE hr
   exact .inr ⟨_,_,h,rfl⟩
 refine⟨.bool (db neg b),?_,.eM _ _ (.bool _)⟩
 have hc:a.eval (.const .nilFunc)=.nilFunc:=rfl
 rcases rx with⟨h,rfl⟩|⟨f,c,h,rfl⟩
 ·have hq:(Op.equal t .nilFunc .nilFunc).run P w=.ok true w:=by
   unfold Op.equal
   rw[show Op.maxDepth=9999+1 from rfl,Op.equalIn]
   simp only[Sem.run_bind,run_underlying ht,Result.andThen_ok]
   rfl
  simp only[execOp,ho,h,hc]
  cases neg<;>simp only[Bool.false_eq_true,if_false,if_true,Bool.not_true,Bool.not_false,eqGuard,binOp,db,Sem.run_bind,hq,Result.andThen_ok,Sem.run_pure]
 ·have hq:(Op.equal t (.func f #[] c) .nilFunc).run P w=.ok false w:=by
   unfold Op.equal
   rw[show Op.maxDepth=9999+1 from rfl,Op.equalIn]
   simp only[Sem.run_bind,run_underlying ht,Result.andThen_ok]
   rfl
  simp only[execOp,ho,h,hc]
  cases neg<;>simp only[Bool.false_eq_true,if_false,if_true,Bool.not_true,Bool.not_false,eqGuard,binOp,db,Sem.run_bind,hq,Result.andThen_ok,Sem.run_pure]
theorem Sq {x:Operand} {x':O} {t:TypeId} (E:cQ P w D ι env a) (ho:o.op=.unOp .not t x) (hx:cO P x=some x') (hv:dI (cZ env x')=some v):nK P a o w D ι v:=by
 have hr:=dB E hx
 unfold dI at hv
 split at hv
 ·rename_i b hb
  simp at hv;subst hv
  rw[hb]at hr
  exact⟨_,by simp only[execOp,ho,fe hr];rfl,.eM _ _ (.bool _)⟩
 ·simp at hv
theorem Sp {x:Operand} {x':O} {t:TypeId} (E:cQ P w D ι env a) (ho:o.op=.unOp .neg t x) (hx:cO P x=some x') (hv:dG (cZ env x')=some v):nK P a o w D ι v:=by
 have hr:=dB E hx
 unfold dG at hv
 split at hv
 ·rename_i k n hb
  simp at hv;subst hv
  rw[hb]at hr
  refine⟨_,by simp only[execOp,ho,dL hr];rfl,?_⟩
  rw[Int.zero_sub];exact .eM _ _ (.int _ _)
 ·simp at hv
theorem PJ {x:Operand} {x':O} {s d:TypeId} {k q:IntKind} (E:cQ P w D ι env a) (ho:o.op=.convert s d x) (hs:P.underlying s=some (.int q)) (hd:P.underlying d=some (.int k)) (hx:cO P x=some x') (hv:cw k (cZ env x')=some v):nK P a o w D ι v:=by
 have hr:=dB E hx
 unfold cw at hv
 split at hv
 ·rename_i k' n hb
  simp at hv;subst hv
  rw[hb]at hr
  refine⟨.int k (k.wrap n),?_,.eM _ _ (.int _ _)⟩
  simp only[execOp,ho,dL hr,convert,Sem.run_bind,run_underlying hs,run_underlying hd,Result.andThen_ok,Conv.intToInt,Sem.run_pure]
 ·simp at hv
theorem My {x:Operand} {x':O} {s:TypeId} {i:Nat} {fs:Array Field} {f:Field} {m:Nat} (E:cQ P w D ι env a) (ho:o.op=.fieldAddr s x i) (hs:P.underlying s=some (.struct fs)) (hf:fs[i]? =some f) (hm:ep P f.type=some (m+1)) (hx:cO P x=some x')
  (hv:EF f.offset (cZ env x')=some v):nK P a o w D ι v:=by
 have hr:=dB E hx
 have go:∀b oo,a.eval x=.pointer (some ⟨b,oo,none⟩)->(execOp a.eval o).run P w=.ok (.value (.pointer (some ⟨b,oo+f.offset,none⟩))) w:=fun b oo h=>by
  simp only[execOp,ho,h,Instr.fieldAt,Sem.run_bind,run_underlying hs,Result.andThen_ok,hf,Instr.sureAddr,Sem.run_pure,fieldPlace,run_sizeOf hm,Nat.add_eq_zero_iff,Nat.one_ne_zero,and_false,if_false,Addr.add]
  split
  ·rename_i h0;simp[h0]
  ·rfl
 unfold EF at hv
 split at hv
 ·rename_i jG i' oo hb
  simp at hv;subst hv
  rw[hb]at hr
  obtain⟨B,h,hB,hk⟩:=iv hr
  refine⟨_,go _ _ h,?_⟩
  rw[Nat.add_assoc]
  exact .ptr _ _ _ _ hB hk
 ·rename_i cs hb
  simp at hv;subst hv
  rw[hb]at hr
  obtain⟨b,oo,vs,h,h1,h2,h3,h4⟩:=jS hr
  refine⟨_,go _ _ h,.eM _ _ (.dt _ _ _ (fun j=>vs (f.offset+j)) h1 (fun a ha=>h2 a (List.mem_of_mem_drop ha)) (fun j hj=>?_) (fun j a ha=>h4 _ _ (by simpa using ha)))⟩
  rw[Nat.add_assoc]
  exact h3 _ (by simp at hj;omega)
 ·simp at hv
theorem Mz {x:Operand} {x':O} {s:TypeId} {i n:Nat} {ag:Bool} {fs:Array Field} {f:Field} (E:cQ P w D ι env a) (ho:o.op=.field s x i) (hs:P.underlying s=some (.struct fs)) (hf:fs[i]? =some f) (tQ:nr P f.type=some ag) (hm:ep P f.type=some n) (hx:cO P x=some x')
  (hv:bw ag f.offset n (cZ env x')=some v):nK P a o w D ι v:=by
 have hr:=dB E hx
 unfold bw at hv
 split at hv
 ·rename_i cs hb
  split at hv
  ·rename_i hl
   rw[hb]at hr
   obtain⟨vs,g,h,n1,fl,f1,r1⟩:=iu hr
   unfold part at hv
   cases ag with
   |true=>
    simp only[if_true]at hv
    split at hv
    ·simp at hv;subst hv
     refine⟨.agg (vs.extract f.offset (f.offset+n)),?_,.agg _ _ (fun j=>g (f.offset+j)) (by simp[n1];omega) (fun a ha=>fl a (List.mem_of_mem_drop (List.mem_of_mem_take ha))) (fun j hj=>?_) (fun j a ha=>?_)⟩
     ·simp only[execOp,ho,h,Instr.field,Sem.run_bind,run_underlying hs,Result.andThen_ok,hf,asAgg,Sem.run_pure,oR tQ hm]
     ·simp at hj
      rw[Array.getElem?_extract,if_pos ai];exact f1 _ ai
     ·rw[List.getElem?_take]at ha
      split at ha
      ·exact r1 _ _ (by simpa using ha)
      ·simp at ha
    ·simp at hv
   |false=>
    simp only[Bool.false_eq_true,if_false]at hv
    have nw:cs[f.offset]? =some v:=by simpa[List.head?_drop]using hv
    have eh:=(List.getElem?_eq_some_iff.1 nw).1
    exact⟨g f.offset,by simp only[execOp,ho,h,Instr.field,Sem.run_bind,run_underlying hs,Result.andThen_ok,hf,asAgg,Sem.run_pure,lY tQ (f1 _ eh)],r1 _ _ nw⟩
  ·simp at hv
 ·simp at hv
theorem Sr {left:Bool} {x y:Operand} {x' y':O} {t yt:TypeId} (E:cQ P w D ι env a) (ho:o.op=.binOp (if left then .shl else .shr) t x y yt) (hx:cO P x=some x') (hy:cO P y=some y') (hv:fE left (cZ env x') (cZ env y')=some v):nK P a o w D ι v:=by
 unfold fE at hv
 split at hv
 ·rename_i k n k' m hb rZ
  split at hv
  ·simp at hv
  ·rename_i hm
   simp at hv;subst hv
   have h1:=dL (hb▸dB E hx)
   have h2:=dL (rZ▸dB E hy)
   refine⟨_,?_,.eM _ _ (.int _ _)⟩
   simp only[execOp,ho,h1,h2]
   cases left<;>simp only[Bool.false_eq_true,if_false,if_true,eqGuard,Bool.not_true,Bool.not_false,binOp,Op.shift,hm,Sem.run_bind,Sem.run_pure,Result.andThen_ok]<;>rfl
 ·simp at hv
end
end Go.Proofs.YtgoljkjaameagaaGreat.V

namespace Go.Proofs.YtgoljkjaameagaaGreat.V
open Go.RowKit
variable {P:Program} {w w':World} {D D':Nat->Prop} {ι ι':Names}
theorem jV (b o j:Nat):(⟨b,o,none⟩:Addr).add j=⟨b,o+j,none⟩:=by unfold Addr.add;split<;>simp_all
section
variable {g:Rows} {hs:Nat} {env:Env} {a:Act} {o:Oper} {id:Id} {v:AV}
theorem kc {t:TypeId} {ag:Bool} {n b oo:Nat} {cs:List AV} {v:AV} {f:Nat->Value} (tQ:nr P t=some ag) (hn:ep P t=some n) (hp:part ag n cs=some v) (fl:∀a∈cs,a.cell=true)
  (hc:∀j,j<cs.length->w.cell? ⟨b,oo+j,none⟩=some (f j)) (hr:∀j a,cs[j]? =some a->dd P w D ι a (f j)):∃u,(loadVar t ⟨b,oo,none⟩).run P w=.ok u w/\dd P w D ι v u:=by
 unfold part at hp
 cases ag with
 |true=>
  simp only[if_true]at hp
  split at hp
  ·rename_i hl
   simp at hp;subst hp
   refine⟨.agg ((List.range n).map f).toArray,?_,.agg _ _ f (by simp;omega) (fun a ha=>fl a (List.mem_of_mem_take ha)) (fun j hj=>?_) (fun j a ha=>?_)⟩
   ·simp only[loadVar,Sem.run_bind,sr tQ,Result.andThen_ok,if_true,run_sizeOf hn,Sem.run_pure]
    rw[run_loadCells w _ n f (fun j hj=>by rw[jV];exact hc j ai)]
    rfl
   ·simp at hj
    have:j<n:=ai
    simp[this]
   ·rw[List.getElem?_take]at ha
    split at ha
    ·exact hr _ _ ha
    ·simp at ha
  ·simp at hp
 |false=>
  simp only[Bool.false_eq_true,if_false]at hp
  cases cs with
  |nil=>simp at hp
  |cons c r=>
   simp at hp;subst hp
   refine⟨f 0,?_,hr 0 _ rfl⟩
   simp only[loadVar,Sem.run_bind,sr tQ,Result.andThen_ok,Bool.false_eq_true,if_false]
   have:=hc 0 (by simp)
   simp at this
   rw[run_load,this]
theorem JS {S:gx P hs D ι g w} {i:Nat} {cs:List AV} (h:rowAt g id i=some cs) (hk:∀B,ι id=some B->B.k=none):∃B r,g id=some r/\ι id=some B/\kV P w D ι B r/\r.rows[i]? =some cs/\(∀a∈cs,a.cell=true)/\∃f:Nat->Value,∀j,j<cs.length->w.cell? ⟨B.b,i*B.sz+j,none⟩=some (f j)/\∀a,cs[j]? =some a->dd P w D ι a (f j):=by
 unfold rowAt at h
 simp only[Option.bind_eq_some_iff]at h
 obtain⟨r,hr,hi⟩:=h
 obtain⟨B,hB,R,_,_⟩:=S.row id r hr
 replace R:=R.row (hk B hB)
 refine⟨B,r,hr,hB,R,hi,R.flat cs (List.mem_of_getElem? hi),fun j=>(w.cell? ⟨B.b,i*B.sz+j,none⟩).getD undef,fun j hj=>?_⟩
 obtain⟨u,hu,xg⟩:=R.at_ i j cs _ hi (List.getElem?_eq_getElem hj)
 rw[R.sz,hu]
 refine⟨by simp only[hu,Option.getD_some],fun a ha=>?_⟩
 rw[List.getElem?_eq_getElem hj]at ha
 injection ha with ha
 subst ha
 simpa only[hu,Option.getD_some]using xg
theorem PS {x:Operand} {x':O} {t:TypeId} {ag:Bool} {n:Nat} (S:gx P hs D ι g w) (E:cQ P w D ι env a) (ho:o.op=.load t x) (tQ:nr P t=some ag) (hn:ep P t=some n) (hx:cO P x=some x') (hv:ld g ag n (cZ env x')=some v):nK P a o w D ι v:=by
 have hr:=dB E hx
 have go:∀b oo u,a.eval x=.pointer (some ⟨b,oo,none⟩)->(loadVar t ⟨b,oo,none⟩).run P w=.ok u w->(execOp a.eval o).run P w=.ok (.value u) w:=fun b oo u h h2=>by
  simp only[execOp,ho,h,Instr.loadAt,Instr.sureAddr,Sem.run_bind,Sem.run_pure,Result.andThen_ok,h2]
 unfold ld at hv
 split at hv
 ·rename_i jG i' oo hb
  rw[hb]at hr
  obtain⟨B,h,hB,hk⟩:=iv hr
  simp only[Option.bind_eq_some_iff]at hv
  obtain⟨cs,dS,hp⟩:=hv
  obtain⟨B',r,Hw,dW,R,hi,fl,f,hf⟩:=JS (S:=S) dS (fun B2 h2=>by rw[hB]at h2;injection h2 with h2;subst h2;exact hk)
  rw[hB]at dW;injection dW with dW;subst dW
  obtain⟨u,h1,h2⟩:=kc (w:=w) (b:=B.b) (oo:=i'*B.sz+oo) (f:=fun j=>f (oo+j)) tQ hn hp (fun a ha=>fl a (List.mem_of_mem_drop ha)) (fun j hj=>by
   rw[Nat.add_assoc];exact(hf _ (by simp at hj;omega)).1) (fun j a ha=>by
   simp at ha;exact(hf _ ((List.getElem?_eq_some_iff.1 ha).1)).2 _ ha)
  exact⟨u,go _ _ _ h h1,h2⟩
 ·rename_i cs hb
  rw[hb]at hr
  obtain⟨b,oo,vs,h,h1,h2,h3,h4⟩:=jS hr
  obtain⟨u,k1,k2⟩:=kc (w:=w) (b:=b) (oo:=oo) (f:=vs) tQ hn hv h2 h3 (fun j a ha=>.eM _ _ (h4 j a ha))
  exact⟨u,go _ _ _ h k1,k2⟩
 ·simp at hv
theorem Si {x:Operand} {x':O} (E:cQ P w D ι env a) (ho:o.op=.nilCheck x) (hx:cO P x=some x') (hv:dE (cZ env x')=some v):nK P a o w D ι v:=by
 have hr:=dB E hx
 unfold dE at hv
 split at hv
 ·rename_i jG i' oo hb
  simp at hv;subst hv
  rw[hb]at hr
  obtain⟨B,h,hB,hk⟩:=iv hr
  exact⟨_,by simp only[execOp,ho,h];rfl,.ptr _ _ _ _ hB hk⟩
 ·rename_i cs hb
  simp at hv;subst hv
  rw[hb]at hr
  obtain⟨b,oo,vs,h,_⟩:=jS hr
  exact⟨_,by simp only[execOp,ho,h];rfl,h▸hr⟩
 ·simp at hv
theorem MA {x i:Operand} {x' i':O} {t e:TypeId} {m:Nat} (S:gx P hs D ι g w) (E:cQ P w D ι env a) (ho:o.op=.indexAddr t x i) (ht:P.underlying t=some (.slice e)) (hm:ep P e=some (m+1)) (hx:cO P x=some x') (hi:cO P i=some i')
  (hv:bx g (m+1) (cZ env x') (cZ env i')=some v):nK P a o w D ι v:=by
 have hr:=dB E hx
 have Dw:=dB E hi
 have go:∀b oo n c k (q:Int),a.eval x=.slice (some ⟨b,oo,none⟩) n c->a.eval i=.int k q->0<=q->q<n->(execOp a.eval o).run P w=.ok (.value (.pointer (some ⟨b,oo+q.toNat*(m+1),none⟩))) w:=fun b oo n c k q h h2 h3 h4=>by
  simp only[execOp,ho,h,h2,Instr.indexAt,asIntOf,Sem.run_bind,Sem.run_pure,run_underlying ht,Result.andThen_ok,h3,h4,and_self,if_true,run_sizeOf hm,jV]
 unfold bx at hv
 split at hv
 ·rename_i rows k q hb rZ
  split at hv
  ·rename_i hq
   simp only[Option.bind_eq_some_iff]at hv
   obtain⟨cs,dS,hv⟩:=hv
   split at hv
   ·rename_i hlen
    simp at hv;subst hv
    rw[hb]at hr;rw[rZ]at Dw
    have eh:=(List.getElem?_eq_some_iff.1 dS).1
    obtain⟨A,c,h,h1,h2,h3⟩:=vM hr
    rcases h3 with h3|⟨b,oo,sz,vs,rfl,hD,hl,fl,hc,hi⟩
    ·subst h3;simp at dS
    have fu:sz=m+1:=by rw[<-hlen,hl cs (List.mem_of_getElem? dS)]
    refine⟨_,go b oo _ _ k q h (dL Dw) hq ai,.eM _ _ (.dt cs b _ (vs q.toNat) hD (fl cs (List.mem_of_getElem? dS)) (fun j hj=>?_) (fun j a ha=>hi _ _ _ _ dS ha))⟩
    have:=hc q.toNat j eh (by rw[<-hl cs (List.mem_of_getElem? dS)];exact hj)
    rw[fu]at this
    rw[Nat.add_assoc];exact this
   ·simp at hv
  ·simp at hv
 ·rename_i jG off len k q hb rZ
  split at hv
  ·rename_i hq
   simp only[Option.bind_eq_some_iff]at hv
   obtain⟨r,Hw,hv⟩:=hv
   split at hv
   ·rename_i xX
    simp at hv;subst hv
    rw[hb]at hr;rw[rZ]at Dw
    obtain⟨oo,cap,B,h,hB,h1,h2,h3,h4,hk⟩:=iF hr
    obtain⟨B',dW,R,_,_⟩:=S.row _ _ Hw
    rw[hB]at dW;injection dW with dW;subst dW
    replace R:=R.row hk
    have fu:B.sz=m+1:=R.sz.trans xX
    refine⟨_,go _ _ _ _ k q h (dL Dw) hq.1 hq.2,?_⟩
    have w8:oo=off*B.sz:=by rcases h2 with h2|h2<;>omega
    have:oo+q.toNat*(m+1)=(off+q.toNat)*B.sz+0:=by rw[w8,<-fu,Nat.add_mul];rfl
    rw[this]
    exact .ptr _ _ _ _ hB hk
   ·simp at hv
  ·simp at hv
 ·simp at hv
theorem PM {x i:Operand} {x' i':O} {t e:TypeId} {m len:Nat} (E:cQ P w D ι env a) (ho:o.op=.indexAddr t x i) (ht:P.underlying t=some (.array len e)) (hm:ep P e=some (m+1)) (hx:cO P x=some x') (hi:cO P i=some i')
  (hv:cz len (m+1) (cZ env x') (cZ env i')=some v):nK P a o w D ι v:=by
 have hr:=dB E hx
 have Dw:=dB E hi
 have go:∀b oo k (q:Int),a.eval x=.pointer (some ⟨b,oo,none⟩)->a.eval i=.int k q->0<=q->q<len->(execOp a.eval o).run P w=.ok (.value (.pointer (some ⟨b,oo+q.toNat*(m+1),none⟩))) w:=fun b oo k q h h2 h3 h4=>by
  simp only[execOp,ho,h,h2,Instr.indexAt,asIntOf,Sem.run_bind,Sem.run_pure,run_underlying ht,Instr.sureAddr,Result.andThen_ok,h3,h4,and_self,if_true,run_sizeOf hm,jV]
 unfold cz at hv
 split at hv
 ·rename_i jG r oo k q hb rZ
  split at hv
  ·rename_i hq
   simp at hv;subst hv
   rw[hb]at hr;rw[rZ]at Dw
   obtain⟨B,h,hB,hk⟩:=iv hr
   refine⟨_,go _ _ k q h (dL Dw) hq.1 hq.2,?_⟩
   rw[Nat.add_assoc]
   exact .ptr _ _ _ _ hB hk
  ·simp at hv
 ·rename_i cs k q hb rZ
  split at hv
  ·rename_i hq
   simp at hv;subst hv
   rw[hb]at hr;rw[rZ]at Dw
   obtain⟨b,oo,vs,h,h1,h2,h3,h4⟩:=jS hr
   refine⟨_,go _ _ k q h (dL Dw) hq.1 hq.2,.eM _ _ (.dt _ _ _ (fun j=>vs (q.toNat*(m+1)+j)) h1 (fun a ha=>h2 a (List.mem_of_mem_drop ha)) (fun j hj=>?_) (fun j a ha=>h4 _ _ (by simpa using ha)))⟩
   rw[Nat.add_assoc]
   exact h3 _ (by simp at hj;omega)
  ·simp at hv
 ·simp at hv
theorem PO {x i:Operand} {x' i':O} {t:TypeId} (E:cQ P w D ι env a) (ho:o.op=.index t x i) (ht:P.underlying t=some .string) (hx:cO P x=some x') (hi:cO P i=some i')
  (hv:cD (cZ env x') (cZ env i')=some v):nK P a o w D ι v:=by
 have hr:=dB E hx
 have Dw:=dB E hi
 unfold cD at hv
 split at hv
 ·rename_i s k q hb rZ
  split at hv
  ·rename_i hq
   simp only[Option.map_eq_some_iff]at hv
   obtain⟨c,hc,rfl⟩:=hv
   rw[hb]at hr;rw[rZ]at Dw
   refine⟨_,?_,.eM _ _ (.int _ _)⟩
   simp only[execOp,ho,fI hr,dL Dw,Instr.index,asIntOf,Sem.run_bind,Sem.run_pure,run_underlying ht,Result.andThen_ok,hq,if_true,hc]
  ·simp at hv
 ·simp at hv
theorem PN {x i:Operand} {x' i':O} {t e:TypeId} {ag:Bool} {len n:Nat} (E:cQ P w D ι env a) (ho:o.op=.index t x i) (ht:P.underlying t=some (.array len e)) (tQ:nr P e=some ag) (hn:ep P e=some n) (hx:cO P x=some x') (hi:cO P i=some i')
  (hv:cC ag len n (cZ env x') (cZ env i')=some v):nK P a o w D ι v:=by
 have hr:=dB E hx
 have Dw:=dB E hi
 unfold cC at hv
 split at hv
 ·rename_i cs k q hb rZ
  split at hv
  ·rename_i hq
   rw[hb]at hr;rw[rZ]at Dw
   obtain⟨vs,f,h,n1,fl,f1,r1⟩:=iu hr
   have go:∀u,(Go.part e vs (q.toNat*n)).run P w=.ok u w->(execOp a.eval o).run P w=.ok (.value u) w:=fun u hu=>by
    simp only[execOp,ho,h,dL Dw,Instr.index,asIntOf,Sem.run_bind,Sem.run_pure,run_underlying ht,Result.andThen_ok,hq,and_self,if_true,run_sizeOf hn,hu]
   unfold part at hv
   cases ag with
   |true=>
    simp only[if_true]at hv
    split at hv
    ·rename_i hl
     simp at hv;subst hv
     simp only[List.length_drop]at hl
     by_cases Ai:n=0
     ·subst Ai
      refine⟨_,go _ (oR tQ hn),.agg _ _ (fun _=>undef) (by simp) (fun a ha=>by simp at ha) (fun j hj=>by simp at hj) (fun j a ha=>by simp at ha)⟩
     refine⟨_,go _ (oR tQ hn),.agg _ _ (fun j=>f (q.toNat*n+j)) (by simp[n1];omega) (fun a ha=>fl a (List.mem_of_mem_drop (List.mem_of_mem_take ha))) (fun j hj=>?_) (fun j a ha=>?_)⟩
     ·simp at hj
      rw[Array.getElem?_extract,if_pos ai];exact f1 _ ai
     ·rw[List.getElem?_take]at ha
      split at ha
      ·exact r1 _ _ (by simpa using ha)
      ·simp at ha
    ·simp at hv
   |false=>
    simp only[Bool.false_eq_true,if_false]at hv
    have nw:cs[q.toNat*n]? =some v:=by simpa[List.head?_drop]using hv
    have eh:=(List.getElem?_eq_some_iff.1 nw).1
    exact⟨_,go _ (lY tQ (f1 _ eh)),r1 _ _ nw⟩
  ·simp at hv
 ·simp at hv
theorem Ht {x:Operand} {x':O} {i:Nat} (E:cQ P w D ι env a) (ho:o.op=.extract x i) (hx:cO P x=some x') (hv:az i (cZ env x')=some v):nK P a o w D ι v:=by
 have hr:=dB E hx
 unfold az at hv
 split at hv
 ·rename_i vs hb
  rw[hb]at hr
  obtain⟨us,f,h,h1,h2,h3⟩:=tZ hr
  have eh:=(List.getElem?_eq_some_iff.1 hv).1
  exact⟨_,by simp only[execOp,ho,h,Instr.extract,h2 _ eh];rfl,h3 _ _ hv⟩
 ·simp at hv
theorem Sn {x:Operand} {x':O} {t:TypeId} {e:TypeId} {n:Nat} (E:cQ P w D ι env a) (ho:o.op=.call {callee:=.builtin .len,args:= #[x],argTypes:= #[t]}) (ht:P.underlying t=some (.slice e)) (hx:cO P x=some x') (hv:dF (cZ env x')=some n):nK P a o w D ι (.int .i64 n):=by
 have hr:=dB E hx
 have go:∀A c,a.eval x=.slice A n c->(execOp a.eval o).run P w=.ok (.value (.int .i64 n)) w:=fun A c h=>by
  simp only[execOp,ho,resolve,Sem.run_bind,Sem.run_pure,Result.andThen_ok,invoke,builtin,Array.map,h]
  simp[Builtin.len_,run_underlying ht,goInt,h]
 refine⟨.int .i64 n,?_,.eM _ _ (.int _ _)⟩
 unfold dF at hv
 split at hv<;>simp at hv<;>subst hv<;>rename_i hb<;>rw[hb]at hr
 ·exact go _ _ (jg hr)
 ·obtain⟨A,c,h,_⟩:=vM hr;exact go _ _ h
 ·obtain⟨oo,cap,B,h,_⟩:=iF hr;exact go _ _ h
theorem PR {x:Operand} {x':O} {t:TypeId} (E:cQ P w D ι env a) (ho:o.op=.call {callee:=.builtin .len,args:= #[x],argTypes:= #[t]}) (ht:P.underlying t=some .string) (hx:cO P x=some x') (hv:cF (cZ env x')=some v):nK P a o w D ι v:=by
 have hr:=dB E hx
 unfold cF at hv
 split at hv
 ·rename_i s hb
  simp at hv;subst hv
  rw[hb]at hr
  have h:=fI hr
  refine⟨_,?_,.eM _ _ (.int _ _)⟩
  simp only[execOp,ho,resolve,Sem.run_bind,Sem.run_pure,Result.andThen_ok,invoke,builtin,Array.map,h]
  simp[Builtin.len_,run_underlying ht,goInt,h]
 ·simp at hv
theorem mH {isS:Bool} {len cap h l:Nat} {lo hi:Option Operand} {Nh pw:Option O} (E:cQ P w D ι env a) (ju:qv P lo=some Nh) (Cz:qv P hi=some pw) (hh:dw len (pw.map (cZ env))=some h) (hl:dx h (Nh.map (cZ env))=some l) (hc:len<=cap):
  (Instr.sliceBounds isS len cap (lo.map a.eval) (hi.map a.eval) none).run P w=.ok (l,h,cap) w/\l<=h/\h<=len:=by
 have bound:∀(x:Operand) (y:O) (k:IntKind) (n:Int) (m:Nat) (c:BoundsCode),cO P x=some y->cZ env y=.int k n->0<=n->n<=m->(Instr.sliceBound (a.eval x) m c).run P w=.ok n.toNat w:=fun x y k n m c hx hy h0 h1=>by
  have hr:=dB E hx
  rw[hy]at hr
  simp only[Instr.sliceBound,dL hr,asIntOf,Sem.run_bind,Sem.run_pure,Result.andThen_ok,h0,h1,and_self,if_true]
 have H:h<=len/\((hi=none/\h=len)∨∃x,hi=some x/\∀c,(Instr.sliceBound (a.eval x) cap c).run P w=.ok h w):=by
  cases hi with
  |none=>
   simp[qv]at Cz;subst Cz
   simp[dw]at hh;subst hh
   exact⟨Nat.le_refl _,.inl ⟨rfl,rfl⟩⟩
  |some x=>
   simp only[qv,Option.map_eq_some_iff]at Cz
   obtain⟨y,hy,rfl⟩:=Cz
   simp only[Option.map_some,dw]at hh
   split at hh
   ·rename_i e;cases e
   ·rename_i k n e
    injection e with e
    split at hh
    ·rename_i hn
     simp at hh;subst hh
     exact⟨ai,.inr ⟨x,rfl,fun c=>bound x y k n _ _ hy e hn.1 ai⟩⟩
    ·simp at hh
   ·simp at hh
 have L:l<=h/\((lo=none/\l=0)∨∃x,lo=some x/\∀c,(Instr.sliceBound (a.eval x) h c).run P w=.ok l w):=by
  cases lo with
  |none=>
   simp[qv]at ju;subst ju
   simp[dx]at hl;subst hl
   exact⟨Nat.zero_le _,.inl ⟨rfl,rfl⟩⟩
  |some x=>
   simp only[qv,Option.map_eq_some_iff]at ju
   obtain⟨y,hy,rfl⟩:=ju
   simp only[Option.map_some,dx]at hl
   split at hl
   ·rename_i e;cases e
   ·rename_i k n e
    injection e with e
    split at hl
    ·rename_i hn
     simp at hl;subst hl
     exact⟨ai,.inr ⟨x,rfl,fun c=>bound x y k n h _ hy e hn.1 hn.2⟩⟩
    ·simp at hl
   ·simp at hl
 refine⟨?_,L.1,H.1⟩
 unfold Instr.sliceBounds
 rcases H.2 with⟨rfl,rfl⟩|⟨x,rfl,hx⟩<;>rcases L.2 with⟨rfl,rfl⟩|⟨y,rfl,hy⟩<;>
  simp only[Option.map_none,Option.map_some,Sem.run_bind,Sem.run_pure,Result.andThen_ok, *]
theorem MB {x:Operand} {x':O} {lo hi:Option Operand} {Nh pw:Option O} {t e:TypeId} {m:Nat} (S:gx P hs D ι g w) (E:cQ P w D ι env a) (ho:o.op=.slice t x lo hi none) (ht:P.underlying t=some (.slice e)) (hm:ep P e=some m) (hx:cO P x=some x') (ju:qv P lo=some Nh) (Cz:qv P hi=some pw)
  (hv:bz g m (cZ env x') (Nh.map (cZ env)) (pw.map (cZ env))=some v):nK P a o w D ι v:=by
 have hr:=dB E hx
 have go:∀A len cap l h,a.eval x=.slice A len cap->(Instr.sliceBounds true len cap (lo.map a.eval) (hi.map a.eval) none).run P w=.ok (l,h,cap) w->(execOp a.eval o).run P w=.ok (.value (.slice (if cap=l then A else A.map (·.add (l*m))) (h-l) (cap-l))) w:=fun A len cap l h h1 h2=>by
  simp only[execOp,ho,h1,Instr.sliceAt,Instr.slice,Sem.run_bind,Sem.run_pure,run_underlying ht,Result.andThen_ok,Option.map_none,h2,run_sizeOf hm]
 unfold bz at hv
 split at hv
 ·rename_i hb
  rw[hb]at hr
  simp only[Option.bind_eq_some_iff,Option.map_eq_some_iff]at hv
  obtain⟨h,hh,l,hl,rfl⟩:=hv
  obtain⟨q,q1,q2⟩:=mH (w:=w) (isS:=true) (cap:=0) E ju Cz hh hl (Nat.le_refl _)
  have h0:h=0:=ai
  have l0:l=0:=ai
  subst h0;subst l0
  refine⟨_,go _ _ _ _ _ (jg hr) q,?_⟩
  simp;exact .eM _ _ .bS
 ·rename_i rows hb
  rw[hb]at hr
  simp only[Option.bind_eq_some_iff,Option.map_eq_some_iff]at hv
  obtain⟨h,hh,l,hl,hv⟩:=hv
  split at hv
  ·rename_i ee
   simp at hv;subst hv
   obtain⟨A,c,he,c1,c2,h3⟩:=vM hr
   obtain⟨q,q1,q2⟩:=mH (w:=w) (isS:=true) (cap:=c) E ju Cz hh hl c1
   refine⟨_,go _ _ _ _ _ he q,.eM _ _ ?_⟩
   have hlen:((rows.drop l).take (h-l)).length=h-l:=by simp;omega
   by_cases hz:h-l=0
   ·have:(rows.drop l).take (h-l)=[]:=by rw[hz];simp
    rw[this,hz]
    exact .zL _ _ ai
   ·rcases h3 with h3|⟨b,oo,sz,vs,rfl,hD,Kz,fl,hc,hi⟩
    ·subst h3;simp at q2;omega
    rw[if_neg ai]
    simp only[Option.map_some,jV]
    have Bm:sz=m:=by
     have eh:l<rows.length:=ai
     have:=ee rows[l] (List.getElem_mem eh)
     rw[<-this,Kz _ (List.getElem_mem eh)]
    subst Bm
    refine .sl _ b _ _ _ sz (fun i j=>vs (l+i) j) hlen ai ai hD (fun cs dS=>Kz cs (List.mem_of_mem_drop (List.mem_of_mem_take dS))) (fun cs dS=>fl cs (List.mem_of_mem_drop (List.mem_of_mem_take dS))) (fun i j hi hj=>?_) (fun i j cs a dS ha=>?_)
    ·rw[<-hc (l+i) j ai hj,Nat.add_mul]
     congr 2;omega
    ·rw[List.getElem?_take]at dS
     split at dS
     ·exact hi _ _ _ _ (by simpa using dS) ha
     ·simp at dS
  ·simp at hv
 ·rename_i jG off len hb
  rw[hb]at hr
  simp only[Option.bind_eq_some_iff,Option.map_eq_some_iff]at hv
  obtain⟨r,Hw,h,hh,l,hl,hv⟩:=hv
  split at hv
  ·rename_i xX
   simp at hv;subst hv
   obtain⟨oo,cap,B,he,hB,h1,h2,h3,h4,hk⟩:=iF hr
   obtain⟨B',dW,R,_,_⟩:=S.row _ _ Hw
   rw[hB]at dW;injection dW with dW;subst dW
   replace R:=R.row hk
   have fu:B.sz=m:=R.sz.trans xX
   obtain⟨q,q1,q2⟩:=mH (w:=w) (isS:=true) (cap:=cap) E ju Cz hh hl h1
   refine⟨_,go _ _ _ _ _ he q,?_⟩
   have e1:(off+l+(cap-l))*B.sz<=B.C:=by rw[show off+l+(cap-l)=off+cap by omega];exact h3
   by_cases lS:cap=l
   ·rw[if_pos lS]
    exact .own _ _ _ _ _ B hB hk ai (.inl ai) e1 ai
   ·rw[if_neg lS]
    simp only[Option.map_some,jV]
    have w8:oo=off*B.sz:=by rcases h2 with h2|h2<;>omega
    exact .own _ _ _ _ _ B hB hk ai (.inr (by rw[w8,fu,Nat.add_mul])) e1 ai
  ·simp at hv
 ·simp at hv
theorem Ko {x:Operand} {x':O} {lo hi:Option Operand} {Nh pw:Option O} {t:TypeId} (E:cQ P w D ι env a) (ho:o.op=.slice t x lo hi none) (ht:P.underlying t=some .string) (hx:cO P x=some x') (ju:qv P lo=some Nh) (Cz:qv P hi=some pw)
  (hv:aQ (cZ env x') (Nh.map (cZ env)) (pw.map (cZ env))=some v):nK P a o w D ι v:=by
 have hr:=dB E hx
 unfold aQ at hv
 split at hv
 ·rename_i s hb
  rw[hb]at hr
  simp only[Option.bind_eq_some_iff,Option.map_eq_some_iff]at hv
  obtain⟨h,hh,l,hl,rfl⟩:=hv
  obtain⟨q,_,_⟩:=mH (w:=w) (isS:=false) E ju Cz hh hl (Nat.le_refl _)
  refine⟨_,?_,.eM _ _ (.str _)⟩
  simp only[execOp,ho,fI hr,Instr.sliceAt,Instr.slice,Sem.run_bind,Sem.run_pure,run_underlying ht,Result.andThen_ok,Option.map_none,Option.isSome_none,Bool.false_eq_true,if_false,q]
 ·simp at hv
theorem Eb {xs:List Operand} {ys:List O} (E:cQ P w D ι env a) (h:xs.mapM (cO P)=some ys):(xs.map a.eval).length=ys.length/\∀j y,ys[j]? =some y->dd P w D ι (cZ env y) ((xs.map a.eval).getD j undef):=by
 induction xs generalizing ys with
 |nil=>simp at h;subst h;simp
 |cons x r ih=>
  simp only[List.mapM_cons,Option.bind_eq_bind,Option.bind_eq_some_iff]at h
  obtain⟨c,hc,lH,dS,h⟩:=h
  simp at h;subst h
  obtain⟨h1,h2⟩:=ih dS
  refine⟨by simpa using h1,fun j d hd=>?_⟩
  cases j with
  |zero=>simp at hd ⊢;subst hd;exact dB E hc
  |succ j=>simp at hd ⊢;simpa using h2 j d hd
theorem PU {f:Nat} {first di:Array Operand} {AG:List O} (E:cQ P w D ι env a) (ho:o.op=.makeFunc (.func f) first di) (hf:first= #[]) (hc:fS P f=true) (hx:di.toList.mapM (cO P)=some AG):nK P a o w D ι (.fn f (AG.map (cZ env))):=by
 subst hf
 obtain⟨h1,h2⟩:=Eb E hx
 refine⟨.func (.func f) #[] (di.map a.eval),by simp only[execOp,ho,Instr.makeFunc,Sem.run_bind,Sem.run_pure,Result.andThen_ok];simp,.fn _ _ _ (fun j=>(di.toList.map a.eval).getD j undef) hc (by simpa using h1) (fun j hj=>?_) (fun j x Qq=>?_)⟩
 ·simp at hj h1
  have:j<di.size:=ai
  simp[this]
 ·simp only[List.getElem?_map,Option.map_eq_some_iff]at Qq
  obtain⟨y,hy,rfl⟩:=Qq
  exact h2 j y hy
theorem PV {f:Nat} {first di:Array Operand} {AG:List O} (E:cQ P w D ι env a) (ho:o.op=.makeFunc (.func f) first di) (hf:di= #[]) (hc:fS P f=true) (hx:first.toList.mapM (cO P)=some AG):nK P a o w D ι (.tY f (AG.map (cZ env))):=by
 subst hf
 obtain⟨h1,h2⟩:=Eb E hx
 refine⟨.func (.func f) (first.map a.eval) #[],by simp only[execOp,ho,Instr.makeFunc,Sem.run_bind,Sem.run_pure,Result.andThen_ok];simp,.tY _ _ _ (fun j=>(first.toList.map a.eval).getD j undef) hc (by simpa using h1) (fun j hj=>?_) (fun j x Qq=>?_)⟩
 ·simp at hj h1
  have:j<first.size:=ai
  simp[this]
 ·simp only[List.getElem?_map,Option.map_eq_some_iff]at Qq
  obtain⟨y,hy,rfl⟩:=Qq
  exact h2 j y hy
end
end Go.Proofs.YtgoljkjaameagaaGreat.V

namespace Go.Proofs.YtgoljkjaameagaaGreat.V
open Go.RowKit
variable {P:Program} {w w':World} {D D':Nat->Prop} {ι ι':Names}
def Mk (P:Program) (a:Act) (o:Oper) (w:World) (D:Nat->Prop) (ι:Names) (id:Id) (v:AV) (r:Row):Prop:=
 ∃u cells T,(execOp a.eval o).run P w=.ok (.value u) (w.alloc (.cells cells T))/\r.w=true/\r.rows.length*r.sz<=cells.size/\(∀cs∈r.rows,cs.length=r.sz)/\(∀cs∈r.rows,∀a∈cs,a.cell=true)/\
  (∀i j cs a,r.rows[i]? =some cs->cs[j]? =some a->∃x,cells[i*r.sz+j]? =some x/\dd P w D ι a x)/\∀ι':Names,ι' id=some ⟨w.heap.size,r.sz,cells.size,none⟩->dd P w D ι' v u
section
variable {g:Rows} {hs:Nat} {env:Env} {a:Act} {o:Oper} {id:Id} {v:AV}
theorem kL {vs:List Value} {cs:List K} (h:vs.mapM Gz=some cs):fw P w D ι (cs.map K.av) vs.toArray:=by
 obtain⟨h1,h2⟩:=qR h
 refine⟨by simp[h1],fun j a ha=>?_⟩
 simp only[List.getElem?_map,Option.map_eq_some_iff]at ha
 obtain⟨c,hc,rfl⟩:=ha
 exact⟨c.val,by simpa using h2 j c hc,vK c⟩
theorem jF {t:TypeId} {z:List K} (h:js P t=some z):∃i v,P.info? t=some i/\i.zero=some v/\v.cells.size=i.size/\v.cells.toList.mapM Gz=some z/\z.length=i.size:=by
 unfold js at h
 split at h
 ·rename_i i hi
  split at h
  ·rename_i v hv
   split at h
   ·rename_i hs
    exact⟨i,v,hi,hv,hs,h,by rw[(qR h).1];simpa using hs⟩
   ·simp at h
  ·simp at h
 ·simp at h
theorem Fz {cs:List AV} {cells:Array Value} (h:fw P w D ι cs cells):∀i j c a,[cs][i]? =some c->c[j]? =some a->∃x,cells[i*cs.length+j]? =some x/\dd P w D ι a x:=by
 intro i j c a hi hj
 cases i with
 |zero=>simp at hi;subst hi;simpa using h.2 j a hj
 |succ i=>simp at hi
theorem RV {t:TypeId} {z:List K} (ho:o.op=.alloc t) (hz:js P t=some z):Mk P a o w D ι id (.ptr id 0 0) ⟨true,z.length,[z.map K.av]⟩:=by
 obtain⟨i,v,hi,hv,hs,hm,hl⟩:=jF hz
 have hk:=kL (P:=P) (w:=w) (D:=D) (ι:=ι) hm
 refine⟨.pointer (some ⟨w.heap.size,0,none⟩),v.cells,t,?_,rfl,?_,?_,?_,?_,?_⟩
 ·simp only[execOp,ho,Instr.alloc,zeroValue,typeInfo,Sem.run_bind]
  simp[hi,hv,newVar,newRow]
 ·simp[hl,hs]
 ·intro cs dS;simp at dS;subst dS;simp
 ·intro cs dS x hx;simp at dS;subst dS
  obtain⟨c,_,rfl⟩:=List.mem_map.1 hx;exact c.mv
 ·have:=Fz hk;simpa using this
 ·intro ι' hι
  have:=dd.ptr (P:=P) (w:=w) (D:=D) (ι:=ι') id 0 0 _ hι rfl
  simpa using this
theorem qb {x:AV} {u:Value} (h:dd P w D ι x u) (hc:x.cells.all AV.cell=true):fw P w D ι x.cells u.cells:=by
 obtain⟨h1,f,h2,h3⟩:=h.cells hc
 exact⟨h1,fun j a ha=>⟨f j,h2 j (List.getElem?_eq_some_iff.1 ha).1,h3 j a ha⟩⟩
theorem RT {t:TypeId} {x:Operand} {x':O} {cs:List AV} (E:cQ P w D ι env a) (ho:o.op=.box t x) (hx:cO P x=some x') (hb:cr (cZ env x')=some cs):Mk P a o w D ι id (.ptr id 0 0) ⟨true,cs.length,[cs]⟩:=by
 have hr:=dB E hx
 unfold cr at hb
 split at hb
 ·rename_i ee
  simp at hb;subst hb
  have hk:=qb hr ee
  refine⟨.pointer (some ⟨w.heap.size,0,none⟩),(a.eval x).cells,t,?_,rfl,?_,?_,?_,?_,?_⟩
  ·simp only[execOp,ho,Instr.box,Sem.run_bind]
   simp[newVar,newRow]
  ·simp[hk.1]
  ·intro cs dS;simp at dS;subst dS;rfl
  ·intro cs dS y hy;simp at dS;subst dS
   exact List.all_eq_true.1 ee y hy
  ·exact Fz hk
  ·intro ι' hι
   have:=dd.ptr (P:=P) (w:=w) (D:=D) (ι:=ι') id 0 0 _ hι rfl
   simpa using this
 ·simp at hb
theorem foldl_set:∀(vs:List Value) (n off:Nat) (cells:Array Value),off+n+vs.length<=cells.size->((vs.zipIdx n).foldl (fun cs (x:Value×Nat)=>cs.setIfInBounds (off+x.2) x.1) cells).size=cells.size/\
  ∀k,((vs.zipIdx n).foldl (fun cs (x:Value×Nat)=>cs.setIfInBounds (off+x.2) x.1) cells)[k]? =if off+n<=k/\k<off+n+vs.length then vs[k-(off+n)]? else cells[k]?
 |[],n,off,cells,_=>⟨rfl,fun k=>by simp;intro h1 h2;omega⟩
 |v::r,n,off,cells,h=>by
  simp only[List.length_cons]at h
  obtain⟨h1,h2⟩:=foldl_set r (n+1) off (cells.setIfInBounds (off+n) v) (by simp;omega)
  simp only[List.zipIdx_cons,List.foldl_cons]
  refine⟨by rw[h1];simp,fun k=>?_⟩
  rw[h2 k]
  simp only[List.length_cons]
  by_cases hk:k=off+n
  ·subst hk
   rw[if_neg ai,if_pos ai]
   simp[show off+n<cells.size by omega]
  ·by_cases uQ:off+n<=k/\k<off+n+(r.length+1)
   ·rw[if_pos ai,if_pos uQ]
    have:k-(off+n)=(k-(off+(n+1)))+1:=ai
    rw[this,List.getElem?_cons_succ]
   ·rw[if_neg ai,if_neg uQ,Array.getElem?_setIfInBounds_ne ai]
theorem uH (place:Nat->Option (Nat×Nat)):∀(ps:List (Nat×Value)) (qs:List (Nat×Nat×AV)) (cells:Array Value) (cs res:List AV),fw P w D ι cs cells->(∀a∈cs,a.cell=true)->ps.length=qs.length->
  (∀(k:Nat) i u o' n x,ps[k]? =some (i,u)->qs[k]? =some (o',n,x)->place i=some (o',n)/\dd P w D ι x u)->bZ cs qs=some res->∃iY,Instr.fill place cells ps=some iY/\fw P w D ι res iY/\(∀a∈res,a.cell=true)/\res.length=cs.length:=by
 intro ps
 induction ps with
 |nil=>
  intro qs cells cs res hR hf hl _ hv
  cases qs with
  |nil=>simp[bZ]at hv;subst hv;exact⟨cells,rfl,hR,hf,rfl⟩
  |cons q r=>simp at hl
 |cons p ps ih=>
  intro qs cells cs res hR hf hl hp hv
  cases qs with
  |nil=>simp at hl
  |cons q qs=>
   obtain⟨i,u⟩:=p
   obtain⟨oo,n,x⟩:=q
   obtain⟨k7,hr⟩:=hp 0 i u oo n x rfl rfl
   unfold bZ at hv
   split at hv
   ·rename_i hc
    obtain⟨c1,c2,c3⟩:=hc
    have hk:=qb hr c3
    have hus:u.cells.size=n:=by rw[hk.1,c1]
    have dS:cells.size=cs.length:=hR.1
    unfold Instr.fill
    simp only[k7]
    rw[if_neg (by rw[hus,dS];simp;omega)]
    obtain⟨s1,s2⟩:=foldl_set u.cells.toList 0 oo cells (by simp;omega)
    have e0:(u.cells.zipIdx.foldl (fun cs (x:Value×Nat)=>cs.setIfInBounds (oo+x.2) x.1) cells)=(u.cells.toList.zipIdx 0).foldl (fun cs (x:Value×Nat)=>cs.setIfInBounds (oo+x.2) x.1) cells:=by
     rw[<-Array.foldl_toList];simp
    have xb:=ih qs (u.cells.zipIdx.foldl (fun cs (x:Value×Nat)=>cs.setIfInBounds (oo+x.2) x.1) cells) (cs.take oo++x.cells++cs.drop (oo+n)) res ?_ ?_ (by simpa using hl) (fun k i u o' n x h1 h2=>hp (k+1) i u o' n x (by simpa using h1) (by simpa using h2)) hv
    ·obtain⟨iY,h1,h2,h3,h4⟩:=xb
     refine⟨iY,h1,h2,h3,?_⟩
     rw[h4];simp;omega
    ·rw[e0]
     refine⟨by rw[s1,dS];simp;omega,fun j a ha=>?_⟩
     rw[s2 j]
     simp only[Nat.add_zero,Array.length_toList]
     by_cases hj:oo<=j/\j<oo+u.cells.size
     ·rw[if_pos hj]
      rw[List.append_assoc,List.getElem?_append_right (by simp;omega),List.getElem?_append_left (by simp;omega)]at ha
      simp only[List.length_take]at ha
      rw[show min oo cs.length=oo by omega]at ha
      simpa using hk.2 _ _ ha
     ·rw[if_neg hj]
      by_cases UF:j<oo
      ·rw[List.append_assoc,List.getElem?_append_left (by simp;omega),List.getElem?_take,if_pos UF]at ha
       exact hR.2 _ _ ha
      ·rw[List.getElem?_append_right (by simp;omega)]at ha
       simp only[List.length_append,List.length_take,List.getElem?_drop]at ha
       rw[show oo+n+(j-(min oo cs.length+x.cells.length))=j by omega]at ha
       exact hR.2 _ _ ha
    ·intro b hb
     rcases List.mem_append.1 hb with hb|hb
     ·rcases List.mem_append.1 hb with hb|hb
      ·exact hf b (List.mem_of_mem_take hb)
      ·exact List.all_eq_true.1 c3 b hb
     ·exact hf b (List.mem_of_mem_drop hb)
   ·simp at hv
theorem w7 {fs:List Field} (h:∀f∈fs,(P.info? f.type).isSome=true):∃zB,fs.mapM (fun f=>(P.info? f.type).map fun i=>(f.offset,i.size))=some zB/\∀(i:Nat) (f:Field) (n:Nat),fs[i]? =some f->ep P f.type=some n->zB[i]? =some (f.offset,n):=by
 induction fs with
 |nil=>exact⟨[],rfl,fun i f n h=>by simp at h⟩
 |cons f r ih=>
  obtain⟨q,h1,h2⟩:=ih (fun x hx=>h x (List.mem_cons_of_mem _ hx))
  obtain⟨i,hi⟩:=Option.isSome_iff_exists.1 (h f (by simp))
  refine⟨(f.offset,i.size)::q,by simp[hi,h1],fun k x n hk hn=>?_⟩
  cases k with
  |zero=>simp at hk;subst hk;simp[ep,hi]at hn;subst hn;rfl
  |succ k=>simp at hk ⊢;exact h2 k x n hk hn
theorem pJ {ps:List (Nat×Operand)} {l:List (Nat×O)} (E:cQ P w D ι env a) (h:ps.mapM (fun(x:Nat×Operand)=>(cO P x.2).map (x.1,·))=some l):l.length=ps.length/\∀(k i:Nat) (y:O),l[k]? =some (i,y)->∃x,ps[k]? =some (i,x)/\cO P x=some y:=by
 induction ps generalizing l with
 |nil=>simp at h;subst h;simp
 |cons p r ih=>
  simp only[List.mapM_cons,Option.bind_eq_bind,Option.bind_eq_some_iff]at h
  obtain⟨c,hc,lH,dS,h⟩:=h
  simp at h;subst h
  obtain⟨h1,h2⟩:=ih dS
  simp only[Option.map_eq_some_iff]at hc
  obtain⟨y,hy,rfl⟩:=hc
  refine⟨by simp[h1],fun k i z hk=>?_⟩
  cases k with
  |zero=>simp at hk;obtain⟨rfl,rfl⟩:=hk;exact⟨p.2,rfl,hy⟩
  |succ k=>simp at hk ⊢;exact h2 k i z hk
theorem CV {fs:Array Field} {l:List (Nat×O)} {q:List (Nat×Nat×O)} (h:rQ P fs l=some q):q.length=l.length/\∀(k oo n:Nat) (y:O),q[k]? =some (oo,n,y)->∃(i:Nat) (f:Field),l[k]? =some (i,y)/\fs[i]? =some f/\f.offset=oo/\ep P f.type=some n:=by
 induction l generalizing q with
 |nil=>simp[rQ]at h;subst h;simp
 |cons p r ih=>
  obtain⟨i,x⟩:=p
  unfold rQ at h
  split at h
  ·rename_i f hf
   split at h
   ·rename_i n hn
    simp only[Option.map_eq_some_iff]at h
    obtain⟨q',IU,rfl⟩:=h
    obtain⟨h1,h2⟩:=ih IU
    refine⟨by simp[h1],fun k oo m y hk=>?_⟩
    cases k with
    |zero=>simp at hk;obtain⟨rfl,rfl,rfl⟩:=hk;exact⟨i,f,rfl,hf,rfl,hn⟩
    |succ k=>simp only[List.getElem?_cons_succ]at hk ⊢;exact h2 k oo m y hk
   ·simp at h
  ·simp at h
theorem fw.agg {xs:List AV} {vs:Array Value} (h:fw P w D ι xs vs) (hf:∀a∈xs,a.cell=true):dd P w D ι (.agg xs) (.agg vs):=
 .agg xs vs (fun j=>vs.getD j undef) h.1 hf (fun j hj=>by
  have:j<vs.size:=by rw[h.1];exact hj
  simp[this]) (fun j a ha=>by
  obtain⟨u,h1,h2⟩:=h.2 j a ha
  simpa[Array.getD_eq_getD_getElem?,h1]using h2)
theorem Mx {t:TypeId} {ps:Array (Nat×Operand)} {fs:Array Field} {z:List K} {l:List (Nat×O)} {q:List (Nat×Nat×O)} {cs:List AV} (E:cQ P w D ι env a) (ho:o.op=.build t ps) (ht:P.underlying t=some (.struct fs)) (hz:js P t=some z) (hl:rT P ps=some l)
  (qG:∀f∈fs.toList,(P.info? f.type).isSome=true) (hq:rQ P fs l=some q) (hv:bZ (z.map K.av) (q.map fun(o,n,x)=>(o,n,cZ env x))=some cs):nK P a o w D ι (.agg cs):=by
 obtain⟨it,zv,hi,uV,hs,hm,Fm⟩:=jF hz
 obtain⟨zB,k7,U4⟩:=w7 qG
 have hk:=kL (P:=P) (w:=w) (D:=D) (ι:=ι) hm
 obtain⟨n1,r1⟩:=pJ E hl
 obtain⟨n2,r2⟩:=CV hq
 obtain⟨iY,h1,h2,h3,_⟩:=uH (P:=P) (w:=w) (D:=D) (ι:=ι) (zB.toArray[·]?) (ps.toList.map fun(i,x)=>(i,a.eval x)) (q.map fun(o,n,x)=>(o,n,cZ env x)) zv.cells _ cs (by simpa using hk)
  (fun b hb=>by obtain⟨c,_,rfl⟩:=List.mem_map.1 hb;exact c.mv) (by simp[n2,n1]) (fun k i u o' n x wL uQ=>by
   simp only[List.getElem?_map,Option.map_eq_some_iff]at wL uQ
   obtain⟨⟨i',x'⟩,hp,e1⟩:=wL
   obtain⟨⟨o2,n',y⟩,IU,e2⟩:=uQ
   simp only[Prod.mk.injEq]at e1 e2
   obtain⟨rfl,rfl⟩:=e1
   obtain⟨rfl,rfl,rfl⟩:=e2
   obtain⟨i2,f,IK,hf,rfl,hn⟩:=r2 _ _ _ _ IU
   obtain⟨x2,Ak,hc⟩:=r1 _ _ _ IK
   rw[hp]at Ak
   simp only[Option.some.injEq,Prod.mk.injEq]at Ak
   obtain⟨rfl,rfl⟩:=Ak
   exact⟨by simpa using U4 _ _ _ (by simpa using hf) hn,dB E hc⟩) hv
 refine⟨.agg iY,?_,h2.agg h3⟩
 have hb:P.built t ((ps.map fun(i,x)=>(i,a.eval x)).toList)=some iY:=by
  unfold Program.built
  simp only[hi,ht,uV,k7]
  simpa using h1
 simp only[execOp,ho,Sem.run_bind,run_build w t _ _ hb,Result.andThen_ok,Sem.run_pure]
theorem Kn {t e:TypeId} {len n:Nat} {ps:Array (Nat×Operand)} {z:List K} {l:List (Nat×O)} {cs:List AV} (E:cQ P w D ι env a) (ho:o.op=.build t ps) (ht:P.underlying t=some (.array len e)) (hz:js P t=some z) (hl:rT P ps=some l) (hn:ep P e=some n)
  (hv:bZ (z.map K.av) ((l.map fun(x:Nat×O)=>(x.1*n,n,x.2)).map fun(o,n,x)=>(o,n,cZ env x))=some cs):nK P a o w D ι (.agg cs):=by
 obtain⟨it,zv,hi,uV,hs,hm,Fm⟩:=jF hz
 have hk:=kL (P:=P) (w:=w) (D:=D) (ι:=ι) hm
 obtain⟨n1,r1⟩:=pJ E hl
 obtain⟨ie,Hy,fu⟩:∃ie,P.info? e=some ie/\ie.size=n:=by simpa[ep]using hn
 obtain⟨iY,h1,h2,h3,_⟩:=uH (P:=P) (w:=w) (D:=D) (ι:=ι) (fun i=>some (i*ie.size,ie.size)) (ps.toList.map fun(i,x)=>(i,a.eval x)) ((l.map fun(x:Nat×O)=>(x.1*n,n,x.2)).map fun(o,n,x)=>(o,n,cZ env x)) zv.cells _ cs (by simpa using hk)
  (fun b hb=>by obtain⟨c,_,rfl⟩:=List.mem_map.1 hb;exact c.mv) (by simp[n1]) (fun k i u o' n' x wL uQ=>by
   simp only[List.getElem?_map,Option.map_eq_some_iff]at wL uQ
   obtain⟨⟨i',x'⟩,hp,e1⟩:=wL
   obtain⟨⟨o2,n2,y⟩,⟨⟨i2,y2⟩,IK,e3⟩,e2⟩:=uQ
   simp only[Prod.mk.injEq]at e1 e2 e3
   obtain⟨rfl,rfl⟩:=e1
   obtain⟨rfl,rfl,rfl⟩:=e2
   obtain⟨rfl,rfl,rfl⟩:=e3
   obtain⟨x2,Ak,hc⟩:=r1 _ _ _ IK
   rw[hp]at Ak
   simp only[Option.some.injEq,Prod.mk.injEq]at Ak
   obtain⟨rfl,rfl⟩:=Ak
   exact⟨by rw[fu],dB E hc⟩) hv
 refine⟨.agg iY,?_,h2.agg h3⟩
 have hb:P.built t ((ps.map fun(i,x)=>(i,a.eval x)).toList)=some iY:=by
  unfold Program.built
  simp only[hi,ht,uV,Hy]
  simpa using h1
 simp only[execOp,ho,Sem.run_bind,run_build w t _ _ hb,Result.andThen_ok,Sem.run_pure]
theorem uG:∀(vs:List AV) (sz i:Nat) (rs:List (List AV)) (cs:List AV),0<sz->cs.length=(i+vs.length)*sz->rowsOf sz vs=some rs->
  bZ cs ((vs.zipIdx i).map fun(v,j)=>(j*sz,sz,v))=some (cs.take (i*sz)++rs.flatten)/\rs.length=vs.length/\(∀c∈rs,c.length=sz)/\∀c∈rs,∀x∈c,x.cell=true
 |[],sz,i,rs,cs,_,hl,h=>by
  simp[rowsOf]at h;subst h
  simp at hl
  simp[bZ,List.take_of_length_le (show cs.length<=i*sz by omega)]
 |v::r,sz,i,rs,cs,fu,hl,h=>by
  simp only[rowsOf,Option.bind_eq_some_iff,Option.map_eq_some_iff]at h
  obtain⟨c,hc,rs',xX,rfl⟩:=h
  unfold rowOf at hc
  split at hc
  ·rename_i zb
   simp at hc;subst hc
   obtain⟨pr,Gh⟩:=zb
   simp only[List.length_cons]at hl
   have hmul:(i+(r.length+1))*sz=i*sz+sz+r.length*sz:=by rw[Nat.add_mul,Nat.add_mul];omega
   have ih:=uG r sz (i+1) rs' (cs.take (i*sz)++v.cells++cs.drop (i*sz+sz)) fu (by
    simp[pr];rw[Nat.add_mul,Nat.add_mul];omega) xX
   refine⟨?_,by simp[ih.2.1],?_,?_⟩
   ·simp only[List.zipIdx_cons,List.map_cons,bZ]
    rw[if_pos ⟨pr,ai,Gh⟩,ih.1]
    congr 1
    rw[List.flatten_cons,<-List.append_assoc]
    congr 1
    rw[Nat.add_mul,Nat.one_mul,List.take_append_of_le_length (by simp[pr];omega)]
    rw[List.take_of_length_le (by simp[pr];omega)]
   ·intro c' kq;rcases List.mem_cons.1 kq with rfl|kq
    ·exact pr
    ·exact ih.2.2.1 c' kq
   ·intro c' kq;rcases List.mem_cons.1 kq with rfl|kq
    ·exact List.all_eq_true.1 Gh
    ·exact ih.2.2.2 c' kq
  ·simp at hc
theorem flat_get {α:Type} {nQ:List (List α)} {sz:Nat} (h:∀cs∈nQ,cs.length=sz) {i j:Nat} {cs:List α} {a:α} (hi:nQ[i]? =some cs) (hj:cs[j]? =some a):nQ.flatten[i*sz+j]? =some a:=by
 induction nQ generalizing i with
 |nil=>simp at hi
 |cons c r ih=>
  have hc:c.length=sz:=h c (by simp)
  cases i with
  |zero=>
   simp at hi;subst hi
   have eh:=(List.getElem?_eq_some_iff.1 hj).1
   rw[List.flatten_cons,List.getElem?_append_left ai];simpa using hj
  |succ i=>
   rw[List.flatten_cons,List.getElem?_append_right (by rw[hc,Nat.succ_mul];omega)]
   have:(i+1)*sz+j-c.length=i*sz+j:=by rw[hc,Nat.succ_mul];omega
   rw[this]
   exact ih (fun cs dS=>h cs (List.mem_cons_of_mem _ dS)) (by simpa using hi)
theorem Is {α:Type} {nQ:List (List α)} {sz:Nat} (h:∀cs∈nQ,cs.length=sz):nQ.flatten.length=nQ.length*sz:=by
 induction nQ with
 |nil=>simp
 |cons c r ih=>
  rw[List.flatten_cons,List.length_append,h c (by simp),ih (fun cs dS=>h cs (List.mem_cons_of_mem _ dS)),List.length_cons,Nat.succ_mul];omega
theorem oJ {zv:Value} {z:List K} {n:Nat} (hm:zv.cells.toList.mapM Gz=some z) (jZ:0<z.length):∀k,k<n->∃c,z[k % z.length]? =some c/\((Array.range n).map (zv.cells[· % zv.cells.size]!))[k]? =some c.val:=by
 intro k hk
 obtain⟨h1,h2⟩:=qR hm
 have fu:zv.cells.size=z.length:=by simpa using h1.symm
 have eh:k % z.length<z.length:=Nat.mod_lt _ jZ
 refine⟨z[k % z.length],List.getElem?_eq_getElem eh,?_⟩
 have h3:=h2 _ _ (List.getElem?_eq_getElem eh)
 simp only[Array.getElem?_toList]at h3
 have Bl:k % z.length<zv.cells.size:=by rw[fu];exact eh
 rw[Array.getElem?_map,Array.getElem?_range,if_pos hk]
 simp only[Option.map_some]
 rw[fu,getElem!_pos zv.cells (k % z.length) Bl]
 rw[Array.getElem?_eq_getElem Bl]at h3
 exact h3
theorem Jk {t e:TypeId} {len sz:Nat} {ps:Array (Nat×Operand)} {z:List K} {l:List (Nat×O)} {rs:List (List AV)} (E:cQ P w D ι env a) (ho:o.op=.buildSlice t len ps) (ht:P.underlying t=some (.slice e)) (fu:ep P e=some (sz+1)) (hz:js P e=some z)
  (hl:rT P ps=some l) (Ly:len*(sz+1)<=4096) (Ry:l.map (·.1)=List.range len) (hv:rowsOf (sz+1) (l.map fun x=>cZ env x.2)=some rs):Mk P a o w D ι id (.own id 0 len) ⟨true,sz+1,rs⟩:=by
 obtain⟨it,zv,hi,uV,hs,hm,Fm⟩:=jF hz
 have jo:it.size=sz+1:=by simpa[ep,hi]using fu
 obtain⟨n1,r1⟩:=pJ E hl
 have IL:l.length=len:=by have:=congrArg List.length Ry;simpa using this
 by_cases h0:len=0
 ·subst h0
  have M3:l=[]:=List.length_eq_zero_iff.1 IL
  subst M3
  simp[rowsOf]at hv;subst hv
  have Tb:ps= #[]:=by
   apply Array.ext';apply List.eq_nil_of_length_eq_zero;rw[<-n1];rfl
  subst Tb
  refine⟨.slice (some ⟨w.heap.size,0,none⟩) 0 0, #[],e,?_,rfl,by simp,by simp,by simp,fun i j cs x hi=>by simp at hi,fun ι' hι=>?_⟩
  ·simp[execOp,ho,Instr.buildSlice,run_underlying ht,sizeOf,typeInfo,hi,Instr.fill,newRow,Array.range_zero']
  ·exact .own _ 0 0 0 0 _ hι rfl (Nat.le_refl _) (.inl rfl) (by simp) (by simp[maxLen])
 ·have x7:fw P w D ι ((List.range (len*(sz+1))).map fun k=>(z.getD (k % z.length) .bS).av) ((Array.range (len*(sz+1))).map (zv.cells[· % zv.cells.size]!)):=by
   refine⟨by simp,fun j x hx=>?_⟩
   simp only[List.getElem?_map,Option.map_eq_some_iff]at hx
   obtain⟨k,hk,rfl⟩:=hx
   have ml:=(List.getElem?_eq_some_iff.1 hk).1
   simp at ml
   rw[List.getElem?_range ml]at hk
   injection hk with hk
   subst hk
   obtain⟨c,hc,hcv⟩:=oJ hm (by rw[Fm,jo];omega) j ml
   exact⟨c.val,hcv,by rw[List.getD_eq_getElem?_getD,hc];exact vK c⟩
  obtain⟨f1,f2,f3,f4⟩:=uG (l.map fun x=>cZ env x.2) (sz+1) 0 rs ((List.range (len*(sz+1))).map fun k=>(z.getD (k % z.length) .bS).av) ai (by simp[IL]) hv
  obtain⟨iY,h1,h2,h3,h4⟩:=uH (P:=P) (w:=w) (D:=D) (ι:=ι) (fun i=>some (i*it.size,it.size)) (ps.toList.map fun(i,x)=>(i,a.eval x)) _ _ _ _ x7
   (fun b hb=>by obtain⟨c,_,rfl⟩:=List.mem_map.1 hb;exact K.mv _) (by simp[n1]) (fun k i u o' n x wL uQ=>by
   simp only[List.getElem?_map,Option.map_eq_some_iff]at wL uQ
   obtain⟨⟨i',x'⟩,hp,e1⟩:=wL
   obtain⟨⟨v2,j2⟩,IU,e2⟩:=uQ
   simp only[Prod.mk.injEq]at e1 e2
   obtain⟨rfl,rfl⟩:=e1
   obtain⟨rfl,rfl,rfl⟩:=e2
   rw[List.getElem?_zipIdx]at IU
   simp only[List.getElem?_map,Option.map_map,Option.map_eq_some_iff,Function.comp_apply,Prod.mk.injEq,Nat.zero_add]at IU
   obtain⟨⟨i2,y⟩,IK,rfl,rfl⟩:=IU
   obtain⟨x2,Ak,hc⟩:=r1 _ _ _ IK
   rw[hp]at Ak
   simp only[Option.some.injEq,Prod.mk.injEq]at Ak
   obtain⟨rfl,rfl⟩:=Ak
   have xU:(l.map (·.1))[k]? =some i':=by rw[List.getElem?_map,IK];rfl
   have ml:=(List.getElem?_eq_some_iff.1 xU).1
   rw[Ry]at xU
   simp at ml
   rw[List.getElem?_range ai]at xU
   injection xU with xU
   subst xU
   exact⟨by rw[jo],dB E hc⟩) f1
  simp only[Nat.zero_mul,List.take_zero,List.nil_append,List.length_map]at h2 h3 h4 f2
  have dS:iY.size=len*(sz+1):=by rw[h2.1,h4];simp
  refine⟨.slice (some ⟨w.heap.size,0,none⟩) len len,iY,e,?_,rfl,?_,f3,f4,fun i j cs x pw hj=>h2.2 _ _ (flat_get f3 pw hj),fun ι' hι=>?_⟩
  ·have gi:=run_buildSlice (P:=P) w t e len (ps.map fun(i,x)=>(i,a.eval x)) iY it zv ht hi uV (by rw[jo];omega) (by rw[jo];exact Nat.mul_ne_zero h0 ai) (by rw[<-jo]at h1;simpa using h1)
   simp only[execOp,ho,Sem.run_bind,gi,Result.andThen_ok,Sem.run_pure]
  ·dsimp only;rw[f2,IL,dS];exact Nat.le_refl _
  ·refine .own _ 0 len 0 len _ hι rfl (Nat.le_refl _) (.inr (by simp)) ?_ (by simp only[maxLen];have:=Nat.le_mul_of_pos_right len (show 0<sz+1 by omega);omega)
   dsimp only;rw[dS];simp
theorem GL {t e:TypeId} {it:TypeInfo} {m:Nat} {z:List K} {l c:Operand} {l' c':O} {n:Nat} {r:Row} (E:cQ P w D ι env a) (ho:o.op=.makeSlice t l c) (ht:P.underlying t=some (.slice e)) (fu:ep P e=some (m+1)) (hz:js P e=some z) (Ll:P.info? e=some it) (hby:it.bytes<=32768)
  (hl:cO P l=some l') (hc:cO P c=some c') (hv:fD z (cZ env l') (cZ env c')=some (n,r)):Mk P a o w D ι id (.own id 0 n) r:=by
 obtain⟨it',zv,hi,uV,hs,hm,Fm⟩:=jF hz
 rw[Ll]at hi;injection hi with hi;subst hi
 have jo:it.size=m+1:=by simpa[ep,Ll]using fu
 unfold fD at hv
 split at hv
 ·rename_i k1 ln k2 cn e1 e2
  split at hv
  ·rename_i hb
   obtain⟨b1,b2,b3⟩:=hb
   simp at hv
   obtain⟨rfl,rfl⟩:=hv
   have r1:=dL (e1▸dB E hl)
   have r2:=dL (e2▸dB E hc)
   unfold dn at b3
   have MR:(it.bytes:Int)*cn<=281474976710656:=by
    have h1:(it.bytes:Int)<=32768:=ai
    have h2:(it.bytes:Int)*cn<=32768*16777216:=Int.mul_le_mul h1 ai ai ai
    omega
   have gi:=run_make (P:=P) w t e it zv ht Ll uV k1 k2 ln cn b1 b2 MR ai
   have j4:∀k,k<cn.toNat*it.size->∃x,z[k % z.length]? =some x/\(madeCells zv.cells (cn.toNat*it.size))[k]? =some x.val:=fun k hk=>oJ hm (by rw[Fm,jo];omega) k hk
   refine⟨.slice (some ⟨w.heap.size,0,none⟩) ln.toNat cn.toNat,madeCells zv.cells (cn.toNat*it.size),e,by simp only[execOp,ho,r1,r2,Sem.run_bind,gi,Result.andThen_ok,Sem.run_pure],rfl,?_,?_,?_,?_,fun ι' hι=>?_⟩
   ·simp only[List.length_replicate,size_madeCells,Fm]
    exact Nat.mul_le_mul_right _ ai
   ·intro cs dS
    have:=List.eq_of_mem_replicate dS
    subst this;simp
   ·intro cs dS x hx
    have:=List.eq_of_mem_replicate dS
    subst this
    obtain⟨c,_,rfl⟩:=List.mem_map.1 hx;exact c.mv
   ·intro i j cs x pw hj
    have mi:=(List.getElem?_eq_some_iff.1 pw).1
    have:=List.eq_of_mem_replicate (List.mem_of_getElem? pw)
    subst this
    simp only[List.length_replicate]at mi
    simp only[List.getElem?_map,Option.map_eq_some_iff]at hj
    obtain⟨q,hq,rfl⟩:=hj
    have gZ:=(List.getElem?_eq_some_iff.1 hq).1
    dsimp only
    obtain⟨x,hx,Ak⟩:=j4 (i*z.length+j) (by
     rw[<-Fm]
     calc i*z.length+j<i*z.length+z.length:=ai
      _=(i+1)*z.length:=by rw[Nat.add_mul,Nat.one_mul]
      _<=cn.toNat*z.length:=Nat.mul_le_mul_right _ ai)
    rw[Nat.mul_comm i,Nat.mul_add_mod,Nat.mod_eq_of_lt gZ,hq]at hx
    injection hx with hx;subst hx
    exact⟨_,by rw[Nat.mul_comm i]at Ak ⊢;exact Ak,vK q⟩
   ·refine .own _ 0 _ 0 _ _ hι rfl ai (.inr (by simp)) ?_ (by simp only[maxLen];omega)
    dsimp only;rw[size_madeCells,Fm];simp
  ·simp at hv
 ·simp at hv
end
end Go.Proofs.YtgoljkjaameagaaGreat.V

namespace Go.Proofs.YtgoljkjaameagaaGreat.V
open Go.RowKit
variable {P:Program} {w w':World} {D D':Nat->Prop} {ι ι':Names}
def EK (P:Program) (k:TypeId) (m:MK):Prop:=
 (∃s,m=⟨false,[s]⟩/\fy P k=some s)∨
 (∃fs ts,m=⟨true,ts⟩/\P.underlying k=some (.struct fs)/\eJ P 4 0 fs.toList=some ts/\P.stoodInHeld k=false/\∀f∈fs.toList,(fy P f.type).isSome=true)
theorem qu {t:TypeId} {m:MK} {z:K} (h:rS P t=some (m,z)):∃k e i zv,P.underlying t=some (.map k e)/\P.info? e=some i/\i.zero=some zv/\Gz zv=some z/\EK P k m:=by
 unfold rS at h
 split at h
 ·rename_i k e ht
  split at h
  ·rename_i zv s h1 h2 h3
   simp only[Option.map_eq_some_iff,Prod.mk.injEq]at h
   obtain⟨z',hz,rfl,rfl⟩:=h
   simp only[Option.bind_eq_some_iff]at h2
   obtain⟨i,hi,uV⟩:=h2
   exact⟨k,e,i,zv,ht,hi,uV,hz,.inl ⟨s,rfl,h3⟩⟩
  ·rename_i zv fs h1 h2 h3 h4
   split at h
   ·rename_i ts z' xh hz
    split at h
    ·rename_i hc
     simp only[Option.some.injEq,Prod.mk.injEq]at h
     obtain⟨rfl,rfl⟩:=h
     simp only[Option.bind_eq_some_iff]at h2
     obtain⟨i,hi,uV⟩:=h2
     simp only[Bool.not_eq_true',List.all_eq_true]at hc
     exact⟨k,e,i,zv,ht,hi,uV,hz,.inr ⟨fs,ts,rfl,h4,xh,hc.1,hc.2⟩⟩
    ·cases h
   ·cases h
  ·cases h
 ·cases h
theorem vP {t:TypeId} {s:TS} (ht:fy P t=some s) (em:Bool) (n:Nat) (v:Value):(Instr.checkKey em (n+1) t v).run P w=.ok () w:=by
 unfold Instr.checkKey
 cases s with
 |tB=>simp[run_underlying (oU ht)]
 |tS=>simp[run_underlying (oW ht)]
 |tI=>
  obtain⟨q,hq⟩:=oV ht
  simp[run_underlying hq]
theorem vQ (em:Bool) (n:Nat) (vs:Array Value):∀(d:Nat) (fs:List Field) (off:Nat) (ts:List TS),eJ P (d+1) off fs=some ts->(∀f∈fs,(fy P f.type).isSome=true)->off+ts.length<=vs.size->
  Sem.run P (forIn fs PUnit.unit fun f (_:PUnit)=>if f.name≠ "_" then do
    let x <-Go.part f.type vs f.offset
    Instr.checkKey em (n+1) f.type x
    pure (ForInStep.yield PUnit.unit)
   else pure (ForInStep.yield PUnit.unit)) w=Result.ok PUnit.unit w
 |d,[],off,ts,_,_,_=>by simp
 |d,f::r,off,ts,hf,hs,hl=>by
  rw[xO]at hf
  split at hf
  ·rename_i hcond
   obtain⟨ho,gP⟩:=hcond
   split at hf
   ·rename_i s Qn
    split at hf
    ·rename_i tQ
     simp only[Option.map_eq_some_iff]at hf
     obtain⟨Nt,hr,rfl⟩:=hf
     simp only[List.length_cons]at hl
     have ih:=vQ em n vs d r (off+1) Nt hr (fun f hf=>hs f (List.mem_cons_of_mem _ hf)) ai
     have hu:vs[off]? =some vs[off]:=by simp
     simp only[List.forIn_cons,Sem.run_bind,if_pos gP,ho,lY tQ hu,Result.andThen_ok,vP Qn,Sem.run_pure]
     exact ih
    ·cases hf
   ·rename_i hn
    have:=hs f (by simp)
    rw[hn]at this;cases this
  ·cases hf
theorem Ei {k:TypeId} {m:MK} (hk:EK P k m) (em:Bool) (key:AV) (u:Value) (tQ:key.isAgg=m.ka) (hlen:key.cells.length=m.ks) (hr:dd P w D ι key u):(Instr.checkKey em 10000 k u).run P w=.ok () w:=by
 rcases hk with⟨s,rfl,hs⟩|⟨fs,ts,rfl,qG,xh,eb,ee⟩
 ·exact vP hs em 9999 u
 ·cases key<;>simp[AV.isAgg]at tQ
  rename_i cs
  obtain⟨vs,f,rfl,h1,_⟩:=iu hr
  unfold Instr.checkKey
  simp only[Sem.run_bind,run_underlying qG,Result.andThen_ok]
  rw[<-Array.forIn_toList]
  have h:=vQ (P:=P) (w:=w) em 9998 vs 3 fs.toList 0 ts xh ee (by simp[AV.cells,MK.ks]at hlen;omega)
  rw[h]
  rfl
theorem HV (a b:ByteArray):(a==b)=decide (a=b):=by
 by_cases h:a=b
 ·subst h;rw[decide_eq_true rfl]
  obtain⟨x⟩:=a
  show(x==x)=true
  simp
 ·rw[decide_eq_false h,Bool.eq_false_iff]
  intro hc
  obtain⟨x⟩:=a
  obtain⟨y⟩:=b
  exact h (by rw[show x=y by simpa using(show(x==y)=true from hc)])
theorem JT {t:TypeId} {s:TS} {x y:AV} {u v:Value} {b:Bool} {d:TypeDesc} (ht:fy P t=some s) (hd:P.underlying t=some d) (he:fa s x y=some b) (hx:dd P w D ι x u) (hy:dd P w D ι y v):Instr.sameNow d u v=some b:=by
 unfold fa at he
 split at he
 ·rename_i k n k' n'
  split at he
  ·rename_i hk
   subst hk
   simp at he;subst he
   obtain⟨q,hq⟩:=oV ht
   rw[hd]at hq;injection hq with hq;subst hq
   rw[dL hx,dL hy]
   simp[Instr.sameNow]
   rfl
  ·cases he
 ·simp at he;subst he
  have hq:=oU ht
  rw[hd]at hq;injection hq with hq;subst hq
  rw[fe hx,fe hy];rfl
 ·rename_i a c
  simp at he;subst he
  have hq:=oW ht
  rw[hd]at hq;injection hq with hq;subst hq
  rw[fI hx,fI hy]
  simp only[Instr.sameNow,HV]
 ·cases he
def Found (es:List MapEntry) (i:Nat) (r:Option Nat) (res:Option (Nat×Value)):Prop:=(r=none/\res=none)∨∃j e,r=some (i+j)/\es[j]? =some e/\res=some (i+j,e.val)
theorem uJ {e:MapEntry} {es:List MapEntry} {i:Nat} {r:Option Nat} {res:Option (Nat×Value)} (h:Found es (i+1) r res):Found (e::es) i r res:=by
 rcases h with h|⟨j,x,h1,h2,h3⟩
 ·exact .inl h
 ·exact .inr ⟨j+1,x,by rw[h1];congr 1;omega,by simpa using h2,by rw[h3];congr 2;omega⟩
theorem AY {t:TypeId} {s:TS} {d:TypeDesc} {x:AV} {u:Value} (ht:fy P t=some s) (hd:P.underlying t=some d) (hx:dd P w D ι x u):∀(rows:List (List AV)) (es:List MapEntry) (i:Nat) (r:Option Nat),es.length=rows.length->
  (∀(j:Nat) (cs:List AV),rows[j]? =some cs->∃(e:MapEntry) (kv:AV),es[j]? =some e/\cs.head? =some kv/\dd P w D ι kv e.key)->gI ⟨false,[s]⟩ [x] rows i=some r->∃res,Instr.findNow d u es i=some res/\Found es i r res
 |[],[],i,r,_,_,h=>by
  simp[gI]at h;subst h
  exact⟨none,rfl,.inl ⟨rfl,rfl⟩⟩
 |[],e::es,i,r,hl,_,h=>by simp at hl
 |cs::rows,[],i,r,hl,_,h=>by simp at hl
 |cs::rows,e::es,i,r,hl,hr,h=>by
  obtain⟨e',kv,Lg,hk,gH⟩:=hr 0 cs rfl
  simp at Lg;subst Lg
  have dS:cs.take (MK.ks ⟨false,[s]⟩)=[kv]:=by
   cases cs with
   |nil=>simp at hk
   |cons a l=>simp at hk;subst hk;simp[MK.ks]
  unfold gI at h
  rw[dS]at h
  cases hq:fa s x kv with
  |none=>simp[eF,hq]at h
  |some b=>
   have hs:=JT ht hd hq hx gH
   cases b with
   |true=>
    simp[eF,hq]at h;subst h
    exact⟨some (i,e.val),by simp[Instr.findNow,hs],.inr ⟨0,e,rfl,rfl,rfl⟩⟩
   |false=>
    simp[eF,hq]at h
    obtain⟨res,h1,h2⟩:=AY ht hd hx rows es (i+1) r (by simpa using hl) (fun j cs hj=>hr (j+1) cs (by simpa using hj)) h
    exact⟨res,by simp[Instr.findNow,hs,h1],uJ h2⟩
theorem pz {t:TypeId} {fs:Array Field} {ts:List TS} {xs ys:List AV} {vs us:Array Value} {b:Bool} (qG:P.underlying t=some (.struct fs)) (eb:P.stoodInHeld t=false) (xh:eJ P 4 0 fs.toList=some ts) (hx:fw P w D ι xs vs) (hy:fw P w D ι ys us) (hv:eF ts xs ys=some b):(Op.equal t (.agg vs) (.agg us)).run P w=.ok b w:=by
 obtain⟨l1,l2⟩:=qD hv
 have q:=qY (w:=w) 4 fs.toList 0 ts xh 9998 ai xs ys vs us b hx hy (by simpa[List.take_of_length_le,l1,l2]using hv)
 have MV:P.fieldsOf t=fs:=by simp[Program.fieldsOf,qG]
 unfold Op.equal
 rw[show Op.maxDepth=9999+1 from rfl,run_equalIn_struct w 9999 t _ _ (by rw[MV];exact qG) eb,MV,q]
theorem qV {cs:List AV} {v:Value} (h:dd P w D ι (.agg cs) v):∃vs,v=.agg vs/\fw P w D ι cs vs:=by
 obtain⟨vs,f,rfl,n1,_,f1,r1⟩:=iu h
 exact⟨vs,rfl,n1,fun j a ha=>⟨f j,f1 j (List.getElem?_eq_some_iff.1 ha).1,r1 j a ha⟩⟩
theorem AX {t:TypeId} {fs:Array Field} {ts:List TS} {xs:List AV} {vs:Array Value} (qG:P.underlying t=some (.struct fs)) (eb:P.stoodInHeld t=false) (xh:eJ P 4 0 fs.toList=some ts) (hx:fw P w D ι xs vs):∀(rows:List (List AV)) (es:List MapEntry) (i:Nat) (r:Option Nat),es.length=rows.length->
  (∀(j:Nat) (cs:List AV),rows[j]? =some cs->∃e:MapEntry,es[j]? =some e/\dd P w D ι (.agg (cs.take ts.length)) e.key)->gI ⟨true,ts⟩ xs rows i=some r->∃res,(Instr.findAsking t (.agg vs) es i).run P w=.ok res w/\Found es i r res
 |[],[],i,r,_,_,h=>by
  simp[gI]at h;subst h
  exact⟨none,by simp[Instr.findAsking],.inl ⟨rfl,rfl⟩⟩
 |[],e::es,i,r,hl,_,h=>by simp at hl
 |cs::rows,[],i,r,hl,_,h=>by simp at hl
 |cs::rows,e::es,i,r,hl,hr,h=>by
  obtain⟨e',Lg,gH⟩:=hr 0 cs rfl
  simp at Lg;subst Lg
  obtain⟨us,hk,hy⟩:=qV gH
  unfold gI at h
  simp only[MK.ks]at h
  split at h
  ·rename_i hq
   simp at h;subst h
   have q:=pz qG eb xh hx hy hq
   exact⟨some (i,e.val),by simp[Instr.findAsking,hk,q],.inr ⟨0,e,rfl,rfl,rfl⟩⟩
  ·rename_i hq
   have q:=pz qG eb xh hx hy hq
   obtain⟨res,h1,h2⟩:=AX qG eb xh hx rows es (i+1) r (by simpa using hl) (fun j cs hj=>hr (j+1) cs (by simpa using hj)) h
   exact⟨res,by simp[Instr.findAsking,hk,q,h1],uJ h2⟩
  ·cases h
theorem uA {a:AV} (h:a.isAgg=false):a.cells=[a]:=by cases a<;>simp_all [AV.isAgg,AV.cells]
theorem uI {k:TypeId} {m:MK} {B:rL} {r:Row} (hk:EK P k m) {key:AV} {u:Value} (hr:dd P w D ι key u) {es:Array MapEntry} (fu:es.size=r.rows.length)
  (hM:∀(i:Nat) (cs:List AV),r.rows[i]? =some cs->∃(e:MapEntry) (kv vv:AV),es[i]? =some e/\part m.ka m.ks cs=some kv/\cs[m.ks]? =some vv/\dd P w D ι kv e.key/\dd P w D ι vv e.val) {fi:Option Nat} (h:gu m key r.rows=some fi):
  (∀em,(Instr.checkKey em 10000 k u).run P w=.ok () w)/\∃res,(Instr.findKey k u es.toList).run P w=.ok res w/\Found es.toList 0 fi res:=by
 unfold gu at h
 split at h
 ·rename_i hc
  obtain⟨c1,c2,c3⟩:=hc
  refine⟨fun em=>Ei hk em key u c1 c2 hr,?_⟩
  rcases hk with⟨s,rfl,hs⟩|⟨fs,ts,rfl,qG,xh,eb,ee⟩
  ·rw[uA c1]at h
   have hd:∃d,P.underlying k=some d:=by
    cases s with
    |tB=>exact⟨_,oU hs⟩
    |tS=>exact⟨_,oW hs⟩
    |tI=>obtain⟨q,hq⟩:=oV hs;exact⟨_,hq⟩
   obtain⟨d,hd⟩:=hd
   obtain⟨res,h1,h2⟩:=AY hs hd hr r.rows es.toList 0 fi (by simpa using fu) (fun j cs hj=>by
    obtain⟨e,kv,vv,q1,q2,_,q4,_⟩:=hM j cs hj
    exact⟨e,kv,by simpa using q1,by simpa[part]using q2,q4⟩) h
   exact⟨res,by simp[Instr.findKey,run_underlying hd,h1],h2⟩
  ·cases key<;>simp[AV.isAgg]at c1
   rename_i cs
   obtain⟨vs,rfl,hL⟩:=qV hr
   obtain⟨res,h1,h2⟩:=AX qG eb xh hL r.rows es.toList 0 fi (by simpa using fu) (fun j cs hj=>by
    obtain⟨e,kv,vv,q1,q2,_,q4,_⟩:=hM j cs hj
    unfold part at q2
    simp only[if_true]at q2
    split at q2
    ·simp only[Option.some.injEq]at q2;subst q2
     exact⟨e,by simpa using q1,q4⟩
    ·cases q2) h
   exact⟨res,(run_findKey_eq w (by simp[qG]) _ _).trans h1,h2⟩
 ·cases h
section
variable {g:Rows} {hs:Nat} {env:Env} {a:Act} {o:Oper} {id:Id} {v:AV}
theorem zu {m:MK} {x:AV} {u:Value} {p:Id×Row} (S:gx P hs D ι g w) (hr:dd P w D ι x u) (h:dy g m x=some p):∃B,u=.map (some B.b)/\g p.1=some p.2/\ι p.1=some B/\B.k=some (.map m)/\MF P w D ι B m p.2:=by
 unfold dy at h
 split at h
 ·rename_i i m'
  split at h
  ·rename_i hm
   subst hm
   simp only[Option.map_eq_some_iff]at h
   obtain⟨r,hg,rfl⟩:=h
   obtain⟨B,rfl,hB,hk⟩:=FB hr
   obtain⟨B',dW,R,_⟩:=S.row i r hg
   rw[hB]at dW;injection dW with dW;subst dW
   exact⟨B,rfl,hg,hB,hk,(R.map _ hk).2⟩
  ·cases h
 ·cases h
theorem PT {t:TypeId} {x k:Operand} {ok:Bool} {m:MK} {z:K} {x' k':O} {mr:Option Row} (S:gx P hs D ι g w) (E:cQ P w D ι env a) (ho:o.op=.lookup t x k ok) (hc:rS P t=some (m,z)) (hx:cO P x=some x') (hk:cO P k=some k')
  (hv:bp (.look m ok z) [cZ env x',cZ env k'] g id=some (v,mr)):mr=none/\nK P a o w D ι v:=by
 obtain⟨kt,e,i,zv,ht,hi,uV,S5,hK⟩:=qu hc
 simp only[bp,Option.bind_eq_some_iff,Option.map_eq_some_iff,Prod.mk.injEq]at hv
 obtain⟨p,hp,fi,MU,y,hy,rfl,rfl⟩:=hv
 obtain⟨B,hu,hg,hB,tP,es,clock,hb,fu,hlen,hM⟩:=zu S (dB E hx) hp
 obtain⟨Kv,res,hf,hF⟩:=uI (B:=B) hK (dB E hk) fu hM MU
 have key:∃val,(match res with|some (_,v)=>(v,true)|none=>(zv,false))=(val,fi.isSome)/\dd P w D ι y val:=by
  rcases hF with⟨rfl,rfl⟩|⟨j,en,rfl,he,rfl⟩
  ·simp only[dC,Option.some.injEq]at hy;subst hy
   refine⟨zv,rfl,?_⟩
   rw[zm S5];exact vK z
  ·simp only[dC,Option.bind_eq_some_iff,Nat.zero_add]at hy
   obtain⟨cs,dS,hy⟩:=hy
   obtain⟨e',kv,vv,q1,_,q3,_,q5⟩:=hM _ cs dS
   rw[hy]at q3;injection q3 with q3;subst q3
   have:e'=en:=by
    have h1:es.toList[j]? =some e':=by simpa using q1
    rw[he]at h1;injection h1 with h1;exact h1.symm
   subst this
   exact⟨_,rfl,q5⟩
 obtain⟨val,sa,k8⟩:=key
 have fq:(getObj B.b).run P w=.ok (.map es clock) w:=MapKept.run_getObj_map hb
 have hz:(zeroValue e).run P w=.ok zv w:=by simp[zeroValue,typeInfo,hi,uV]
 refine⟨rfl,if ok then .tuple #[val,.bool fi.isSome]else val,?_,?_⟩
 ·simp only[execOp,ho,hu,Instr.lookup,Sem.run_bind,run_underlying ht,Result.andThen_ok,fq,Sem.run_pure,Kv,hf]
  rcases hF with⟨rfl,rfl⟩|⟨j,en,rfl,he,rfl⟩
  ·simp only[Prod.mk.injEq]at sa
   simp[hz,sa.1]
  ·simp only[Prod.mk.injEq]at sa
   simp[sa.1]
 ·cases ok with
  |false=>exact k8
  |true=>
   refine .gn _ _ (fun j=>if j=0 then val else .bool fi.isSome) rfl (fun j hj=>?_) (fun j b hj=>?_)
   ·have:j=0∨j=1:=by simp at hj;omega
    rcases this with rfl|rfl<;>rfl
   ·match j,hj with
    |0,hj=>simp at hj;subst hj;exact k8
    |1,hj=>simp at hj;subst hj;exact .eM _ _ (.bool _)
    |j+2,hj=>simp at hj
theorem PW {t:TypeId} {x:Operand} {m:MK} {z:K} {x':O} {mr:Option Row} (S:gx P hs D ι g w) (E:cQ P w D ι env a) (ho:o.op=.call {callee:=.builtin .len,args:= #[x],argTypes:= #[t]}) (hc:rS P t=some (m,z)) (hx:cO P x=some x')
  (hv:bp (.len m) [cZ env x'] g id=some (v,mr)):mr=none/\nK P a o w D ι v:=by
 obtain⟨kt,e,i,zv,ht,hi,uV,S5,hK⟩:=qu hc
 simp only[bp,Option.map_eq_some_iff,Prod.mk.injEq]at hv
 obtain⟨p,hp,rfl,rfl⟩:=hv
 obtain⟨B,hu,hg,hB,tP,es,clock,hb,fu,hlen,hM⟩:=zu S (dB E hx) hp
 have fq:(getObj B.b).run P w=.ok (.map es clock) w:=MapKept.run_getObj_map hb
 refine⟨rfl,.int .i64 (es.size:Int),?_,by rw[fu];exact .eM _ _ (.int _ _)⟩
 simp only[execOp,ho,resolve,Sem.run_bind,Sem.run_pure,Result.andThen_ok,invoke,builtin,Array.map,hu]
 simp[Builtin.len_,run_underlying ht,goInt,hu,fq]
def MkM (P:Program) (a:Act) (o:Oper) (w:World) (id:Id) (v:AV) (r:Row):Prop:=
 ∃m,(execOp a.eval o).run P w=.ok (.value (.map (some w.heap.size))) (w.alloc (.map #[] 0))/\v=.map id m/\r=⟨true,m.ua,[]⟩
theorem RU {t:TypeId} {m:MK} (ho:o.op=.makeMap t none):MkM P a o w id (.map id m) ⟨true,m.ua,[]⟩:=by
 refine⟨m,?_,rfl,rfl⟩
 simp[execOp,ho,Instr.makeMap,go_sem]
def MkC (P:Program) (a:Act) (o:Oper) (w:World) (id:Id) (v:AV) (r:Row):Prop:=
 ∃n,(execOp a.eval o).run P w=.ok (.value (.chan (some w.heap.size))) (w.alloc (.chan n #[] false 0 0 false))/\v=.qx id/\r=⟨true,qC+n,[]⟩
theorem Pb {t e:TypeId} {x:Operand} {x':O} {dir:ChanDir} {i:TypeInfo} {n:Nat} (E:cQ P w D ι env a) (ho:o.op=.makeChan t x) (ht:P.underlying t=some (.chan dir e)) (hi:P.info? e=some i) (hb:i.bytes<=32768) (hx:cO P x=some x') (hn:cG (cZ env x')=some n):MkC P a o w id (.qx id) ⟨true,qC+n,[]⟩:=by
 refine⟨n,?_,rfl,rfl⟩
 have hr:=dB E hx
 unfold cG at hn
 split at hn
 ·rename_i k m hm
  rw[hm]at hr
  split at hn
  ·rename_i hc
   simp only[Option.some.injEq]at hn
   subst hn
   have r7:((m.toNat:Nat):Int)=m:=ai
   have eh:(i.bytes:Int)*(m.toNat:Nat)<=281474976710544:=by
    have h1:i.bytes*m.toNat<=32768*1048576:=Nat.mul_le_mul hb ai
    have h2:((i.bytes*m.toNat:Nat):Int)<=281474976710544:=ai
    rwa [Int.natCast_mul]at h2
   have h:=Conc.run_makeChan (P:=P) (w:=w) ht hi k m.toNat ai eh
   rw[r7]at h
   simp only[execOp,ho,dL hr,Sem.run_bind,h,Result.andThen_ok,Sem.run_pure]
  ·cases hn
 ·cases hn
theorem yV {x:AV} {u:Value} {i:Id} {r:Row} (S:gx P hs D ι g w) (hr:dd P w D ι x u) (hx:x=.qx i) (hg:g i=some r):∃B c,u=.chan (some B.b)/\ι i=some B/\B.k=some (.chan c)/\r.sz=qC+c/\HH P w D ι B c r:=by
 subst hx
 obtain⟨B,c,rfl,hB,hk⟩:=Mf hr
 obtain⟨B',dW,R,_⟩:=S.row i r hg
 rw[hB]at dW;injection dW with dW;subst dW
 exact⟨B,c,rfl,hB,hk,R.chan c hk⟩
theorem PQ {t e:TypeId} {dir:ChanDir} {x:Operand} {x':O} (S:gx P hs D ι g w) (E:cQ P w D ι env a) (ho:o.op=.call {callee:=.builtin .len,args:= #[x],argTypes:= #[t]}) (ht:P.underlying t=some (.chan dir e)) (hx:cO P x=some x') (hv:cE g (cZ env x')=some v):nK P a o w D ι v:=by
 have hr:=dB E hx
 unfold cE at hv
 split at hv
 ·rename_i i he
  simp only[Option.map_eq_some_iff]at hv
  obtain⟨r,hg,rfl⟩:=hv
  obtain⟨B,c,hu,hB,hk,fu,buf,s,q,hb,Ku,_⟩:=yV S hr he hg
  have fq:(getObj B.b).run P w=.ok (.chan c buf false s q false) w:=by simp[getObj,Sem.run,hb]
  refine⟨.int .i64 (buf.size:Int),?_,by rw[Ku];exact .eM _ _ (.int _ _)⟩
  simp only[execOp,ho,resolve,Sem.run_bind,Sem.run_pure,Result.andThen_ok,invoke,builtin,Array.map,hu]
  simp[Builtin.len_,run_underlying ht,goInt,hu,fq]
 ·cases hv
end
end Go.Proofs.YtgoljkjaameagaaGreat.V

namespace Go.Proofs.YtgoljkjaameagaaGreat.V
open Go.RowKit
variable {P:Program} {w w':World} {D D':Nat->Prop} {ι ι':Names}
def KK (P:Program) (a:Act) (o:Oper) (w:World) (D:Nat->Prop) (ι:Names) (id:Id) (v:AV):Option Row->Prop
 |none=>nK P a o w D ι v
 |some r=>Mk P a o w D ι id v r∨MkM P a o w id v r∨MkC P a o w id v r
section
variable {g:Rows} {hs:Nat} {env:Env} {a:Act} {o:Oper} {id:Id} {v:AV}
theorem kS {x:Option AV} {mr:Option Row} (h:x.map (·,(none:Option Row))=some (v,mr)) (H:x=some v->nK P a o w D ι v):KK P a o w D ι id v mr:=by
 cases x with
 |none=>simp at h
 |some y=>simp at h;obtain⟨rfl,rfl⟩:=h;exact H rfl
theorem R4 {neg:Bool} {t yt:TypeId} {x y:Operand} {vo:gy} {mr:Option Row} (ho:o.op=.binOp (if neg then .neq else .eql) t x y yt) (hc:rR P neg t x y=some vo) (hq:ef vo (cZ env) g id=some (v,mr)) (E:cQ P w D ι env a):KK P a o w D ι id v mr:=by
 unfold rR at hc
 split at hc
 ·split at hc
  ·rename_i e ht
   simp only[Option.map_eq_some_iff]at hc
   obtain⟨x',hx,rfl⟩:=hc
   simp only[ef,dH,Bool.false_eq_true,if_false,Option.map_eq_some_iff,Prod.mk.injEq]at hq
   obtain⟨b,hb,rfl,rfl⟩:=hq
   exact PL E ho ht hx hb
  ·simp at hc
 ·split at hc
  ·rename_i ht
   simp only[Option.map_eq_some_iff]at hc
   obtain⟨x',hx,rfl⟩:=hc
   simp only[ef,dH,if_true,Option.map_eq_some_iff,Prod.mk.injEq]at hq
   obtain⟨b,hb,rfl,rfl⟩:=hq
   exact PK E ho ht hx hb
  ·simp at hc
 ·split at hc
  ·rename_i ht
   simp only[Option.map_eq_some_iff]at hc
   obtain⟨x',hx,rfl⟩:=hc
   simp only[ef,Option.map_eq_some_iff,Prod.mk.injEq]at hq
   obtain⟨b,hb,rfl,rfl⟩:=hq
   exact Sk E ho ht hx hb
  ·simp at hc
 ·split at hc
  ·rename_i s hs
   simp only[Option.bind_eq_bind,Option.bind_eq_some_iff,Option.pure_def,Option.some.injEq]at hc
   obtain⟨x',hx,y',hy,rfl⟩:=hc
   simp only[ef,Option.map_eq_some_iff,Prod.mk.injEq]at hq
   obtain⟨b,hb,rfl,rfl⟩:=hq
   have zi:fy P t=some s:=by
    unfold TD at hs
    split at hs
    ·rename_i s' h;simp at hs;subst hs;exact h
    ·split at hs
     ·split at hs
      ·simp at hs
      ·simp at hs
     ·simp at hs
   exact Sm E ho zi hx hy hb
  ·rename_i ts hs
   simp only[Option.bind_eq_bind,Option.bind_eq_some_iff,Option.pure_def,Option.some.injEq]at hc
   obtain⟨x',hx,y',hy,rfl⟩:=hc
   simp only[ef]at hq
   split at hq
   ·rename_i xs ys h1 h2
    simp only[Option.map_eq_some_iff,Prod.mk.injEq]at hq
    obtain⟨b,hb,rfl,rfl⟩:=hq
    unfold TD at hs
    split at hs
    ·simp at hs
    ·split at hs
     ·rename_i fs qG
      split at hs
      ·rename_i hg
       simp only[Option.map_eq_some_iff,Tt.ag.injEq]at hs
       obtain⟨Nt,xh,rfl⟩:=hs
       simp only[Bool.and_eq_true,Bool.not_eq_true']at hg
       exact Sj E ho qG hg.1 hg.2 xh hx hy h1 h2 hb
      ·simp at hs
     ·simp at hs
   ·simp at hq
  ·simp at hc
theorem Ph {c:Call} {vo:gy} {mr:Option Row} (ho:o.op=.call c) (hc:mU P c=some vo) (hq:ef vo (cZ env) g id=some (v,mr)) (S:gx P hs D ι g w) (E:cQ P w D ι env a):KK P a o w D ι id v mr:=by
 unfold mU at hc
 split at hc
 ·rename_i j8
  split at hc
  ·rename_i x t h1 h2
   have hce:c={callee:=.builtin .len,args:= #[x],argTypes:= #[t]}:=by
    obtain⟨a,b,c⟩:=c
    simp only at h1 h2 j8
    subst j8
    congr
    ·exact Array.ext' h1
    ·exact Array.ext' h2
   rw[hce]at ho
   split at hc
   ·rename_i e ht
    simp only[Option.map_eq_some_iff]at hc
    obtain⟨x',hx,rfl⟩:=hc
    simp only[ef,Option.map_eq_some_iff,Prod.mk.injEq]at hq
    obtain⟨n,hn,rfl,rfl⟩:=hq
    exact Sn E ho ht hx hn
   ·rename_i ht
    simp only[Option.map_eq_some_iff]at hc
    obtain⟨x',hx,rfl⟩:=hc
    exact kS hq fun h=>PR E ho ht hx h
   ·split at hc
    ·rename_i m z x' hm hx
     simp only[Option.some.injEq]at hc
     subst hc
     obtain⟨rfl,h⟩:=PW (id:=id) S E ho hm hx hq
     exact h
    ·cases hc
   ·rename_i ht
    simp only[Option.map_eq_some_iff]at hc
    obtain⟨x',hx,rfl⟩:=hc
    exact kS hq fun h=>PQ S E ho ht hx h
   ·simp at hc
  ·simp at hc
 ·split at hc
  ·split at hc
   ·split at hc
    ·split at hc
     ·simp only[Option.bind_eq_bind,Option.bind_eq_some_iff,Option.pure_def,Option.some.injEq]at hc
      obtain⟨x',hx,y',hy,rfl⟩:=hc
      simp[ef]at hq
     ·simp at hc
    ·simp at hc
   ·simp at hc
  ·simp at hc
 ·split at hc
  ·split at hc
   ·split at hc
    ·simp only[Option.map_eq_some_iff]at hc
     obtain⟨x',hx,rfl⟩:=hc
     simp[ef]at hq
    ·simp at hc
   ·simp at hc
  ·simp at hc
 ·split at hc
  ·simp only[Option.map_eq_some_iff]at hc
   obtain⟨x',hx,rfl⟩:=hc
   simp[ef]at hq
  ·simp at hc
 ·simp only[Option.map_eq_some_iff]at hc
  obtain⟨x',hx,rfl⟩:=hc
  simp[ef]at hq
 ·split at hc
  ·split at hc
   ·simp only[Option.some.injEq]at hc
    subst hc
    simp[ef]at hq
   ·cases hc
  ·cases hc
 ·split at hc
  ·split at hc
   ·split at hc
    ·simp only[Option.bind_eq_bind,Option.bind_eq_some_iff,Option.pure_def,Option.some.injEq]at hc
     obtain⟨x',hx,y',hy,rfl⟩:=hc
     simp[ef]at hq
    ·simp at hc
   ·simp at hc
  ·simp at hc
 ·simp at hc
theorem yw {vo:gy} {mr:Option Row} (hc:qh P o.op=some vo) (hq:ef vo (cZ env) g id=some (v,mr)) (S:gx P hs D ι g w) (E:cQ P w D ι env a):KK P a o w D ι id v mr:=by
 unfold qh at hc
 split at hc
 ·rename_i ho
  simp only[Option.map_eq_some_iff]at hc
  obtain⟨x',hx,rfl⟩:=hc
  simp[ef]at hq;obtain⟨rfl,rfl⟩:=hq
  exact Nv E (.inl ho) hx
 ·rename_i ho
  simp only[Option.map_eq_some_iff]at hc
  obtain⟨x',hx,rfl⟩:=hc
  simp[ef]at hq;obtain⟨rfl,rfl⟩:=hq
  exact Nv E (.inr ho) hx
 ·rename_i ho
  simp only[Option.bind_eq_bind,Option.bind_eq_some_iff,Option.pure_def,Option.some.injEq]at hc
  obtain⟨c',h1,x',h2,y',h3,rfl⟩:=hc
  exact kS hq fun h=>PX E ho h1 h2 h3 h
 ·rename_i ho
  simp only[Option.map_eq_some_iff]at hc
  obtain⟨z,hz,rfl⟩:=hc
  simp only[ef,Option.some.injEq,Prod.mk.injEq]at hq
  obtain⟨rfl,rfl⟩:=hq
  exact .inl (RV ho hz)
 ·rename_i ho
  simp only[Option.map_eq_some_iff]at hc
  obtain⟨x',hx,rfl⟩:=hc
  simp only[ef,Option.map_eq_some_iff,Prod.mk.injEq]at hq
  obtain⟨cs,dS,rfl,rfl⟩:=hq
  exact .inl (RT E ho hx dS)
 ·rename_i ho
  simp only[Option.bind_eq_bind,Option.bind_eq_some_iff,Option.pure_def,Option.some.injEq]at hc
  obtain⟨ag,h1,n,h2,x',h3,rfl⟩:=hc
  exact kS hq fun h=>PS S E ho h1 h2 h3 h
 ·rename_i ho
  simp only[Option.bind_eq_bind,Option.bind_eq_some_iff,Option.pure_def,Option.some.injEq]at hc
  obtain⟨n,h2,x',h3,y',h4,rfl⟩:=hc
  simp[ef]at hq
 ·rename_i ho
  simp only[Option.map_eq_some_iff]at hc
  obtain⟨x',hx,rfl⟩:=hc
  exact kS hq fun h=>Si E ho hx h
 ·rename_i op t x y yt ho
  unfold uu at hc
  split at hc
  ·exact R4 (neg:=false) ho hc hq E
  ·exact R4 (neg:=true) ho hc hq E
  ·simp only[Option.bind_eq_bind,Option.bind_eq_some_iff,Option.pure_def,Option.some.injEq]at hc
   obtain⟨x',h3,y',h4,rfl⟩:=hc
   exact kS hq fun h=>Sr (left:=true) E ho h3 h4 h
  ·simp only[Option.bind_eq_bind,Option.bind_eq_some_iff,Option.pure_def,Option.some.injEq]at hc
   obtain⟨x',h3,y',h4,rfl⟩:=hc
   exact kS hq fun h=>Sr (left:=false) E ho h3 h4 h
  ·rename_i n1 n2 n3 n4
   split at hc
   ·simp only[Option.bind_eq_bind,Option.bind_eq_some_iff,Option.pure_def,Option.some.injEq]at hc
    obtain⟨x',h3,y',h4,rfl⟩:=hc
    exact kS hq fun h=>Sh E ho n1 n2 h3 h4 h
   ·simp only[Option.bind_eq_bind,Option.bind_eq_some_iff,Option.pure_def,Option.some.injEq]at hc
    obtain⟨x',h3,y',h4,rfl⟩:=hc
    exact kS hq fun h=>PI E ho n1 n2 h3 h4 h
   ·simp at hc
 ·rename_i ho
  simp only[Option.map_eq_some_iff]at hc
  obtain⟨x',hx,rfl⟩:=hc
  exact kS hq fun h=>Sq E ho hx h
 ·rename_i ho
  simp only[Option.map_eq_some_iff]at hc
  obtain⟨x',hx,rfl⟩:=hc
  exact kS hq fun h=>Sp E ho hx h
 ·rename_i ho
  split at hc
  ·rename_i q k h1 h2
   simp only[Option.map_eq_some_iff]at hc
   obtain⟨x',hx,rfl⟩:=hc
   exact kS hq fun h=>PJ E ho h1 h2 hx h
  ·rename_i h1 h2
   simp only[Option.map_eq_some_iff]at hc
   obtain⟨x',hx,rfl⟩:=hc
   exact kS hq fun h=>by
    have hr:=dB E hx
    unfold bC at h
    split at h
    ·rename_i s hb
     simp at h;subst h
     rw[hb]at hr
     exact⟨.string s,by simp only[execOp,ho,fI hr,convert,Sem.run_bind,run_underlying h1,run_underlying h2,Result.andThen_ok,Sem.run_pure],.eM _ _ (.str _)⟩
    ·simp at h
  ·simp at hc
 ·rename_i ho
  split at hc
  ·rename_i e ht
   simp only[Option.bind_eq_bind,Option.bind_eq_some_iff,Option.pure_def,Option.some.injEq]at hc
   obtain⟨n,h1,x',h2,lo,h3,hi,h4,rfl⟩:=hc
   exact kS hq fun h=>MB S E ho ht h1 h2 h3 h4 h
  ·rename_i ht
   simp only[Option.bind_eq_bind,Option.bind_eq_some_iff,Option.pure_def,Option.some.injEq]at hc
   obtain⟨x',h2,lo,h3,hi,h4,rfl⟩:=hc
   exact kS hq fun h=>Ko E ho ht h2 h3 h4 h
  ·simp at hc
 ·rename_i ho
  split at hc
  ·rename_i fs qG
   split at hc
   ·rename_i f hf
    split at hc
    ·rename_i m hm
     simp only[Option.map_eq_some_iff]at hc
     obtain⟨x',hx,rfl⟩:=hc
     exact kS hq fun h=>My E ho qG hf hm hx h
    ·simp at hc
   ·simp at hc
  ·simp at hc
 ·rename_i ho
  split at hc
  ·rename_i fs qG
   split at hc
   ·rename_i f hf
    simp only[Option.bind_eq_bind,Option.bind_eq_some_iff,Option.pure_def,Option.some.injEq]at hc
    obtain⟨ag,h1,n,h2,x',h3,rfl⟩:=hc
    exact kS hq fun h=>Mz E ho qG hf h1 h2 h3 h
   ·simp at hc
  ·simp at hc
 ·rename_i ho
  split at hc
  ·rename_i e ht
   split at hc
   ·rename_i m hm
    simp only[Option.bind_eq_bind,Option.bind_eq_some_iff,Option.pure_def,Option.some.injEq]at hc
    obtain⟨x',h1,i',h2,rfl⟩:=hc
    exact kS hq fun h=>MA S E ho ht hm h1 h2 h
   ·simp at hc
  ·rename_i len e ht
   split at hc
   ·rename_i m hm
    simp only[Option.bind_eq_bind,Option.bind_eq_some_iff,Option.pure_def,Option.some.injEq]at hc
    obtain⟨x',h1,i',h2,rfl⟩:=hc
    exact kS hq fun h=>PM E ho ht hm h1 h2 h
   ·simp at hc
  ·simp at hc
 ·rename_i ho
  split at hc
  ·rename_i ht
   simp only[Option.bind_eq_bind,Option.bind_eq_some_iff,Option.pure_def,Option.some.injEq]at hc
   obtain⟨x',h1,i',h2,rfl⟩:=hc
   exact kS hq fun h=>PO E ho ht h1 h2 h
  ·rename_i len e ht
   simp only[Option.bind_eq_bind,Option.bind_eq_some_iff,Option.pure_def,Option.some.injEq]at hc
   obtain⟨ag,h0,n,h1,x',h2,i',h3,rfl⟩:=hc
   exact kS hq fun h=>PN E ho ht h0 h1 h2 h3 h
  ·simp at hc
 ·rename_i ho
  simp only[Option.map_eq_some_iff]at hc
  obtain⟨x',hx,rfl⟩:=hc
  exact kS hq fun h=>Ht E ho hx h
 ·rename_i ho
  split at hc
  ·rename_i fs qG
   split at hc
   ·rename_i z l hz hl
    split at hc
    ·rename_i ee
     simp only[Option.map_eq_some_iff]at hc
     obtain⟨q,IU,rfl⟩:=hc
     simp only[ef,Option.map_eq_some_iff,Prod.mk.injEq]at hq
     obtain⟨cs,dS,rfl,rfl⟩:=hq
     exact Mx E ho qG hz hl (fun f hf=>by
      rw[Array.all_eq_true_iff_forall_mem]at ee
      exact ee f (Array.mem_toList_iff.1 hf)) IU dS
    ·simp at hc
   ·simp at hc
  ·rename_i len e ht
   split at hc
   ·rename_i z l n hz hl hn
    simp only[Option.some.injEq]at hc
    subst hc
    simp only[ef,Option.map_eq_some_iff,Prod.mk.injEq]at hq
    obtain⟨cs,dS,rfl,rfl⟩:=hq
    exact Kn E ho ht hz hl hn dS
   ·simp at hc
  ·simp at hc
 ·rename_i ho
  split at hc
  ·rename_i e ht
   split at hc
   ·rename_i sz z l h1 h2 h3
    split at hc
    ·rename_i hh
     simp only[Option.some.injEq]at hc
     subst hc
     simp only[ef,Option.map_eq_some_iff,Prod.mk.injEq]at hq
     obtain⟨rs,xX,rfl,rfl⟩:=hq
     exact .inl (Jk E ho ht h1 h2 h3 hh.1 hh.2 (by rw[List.map_map]at xX;exact xX))
    ·simp at hc
   ·simp at hc
  ·simp at hc
 ·rename_i ho
  split at hc
  ·rename_i hh
   simp only[Option.map_eq_some_iff]at hc
   obtain⟨l,hl,rfl⟩:=hc
   simp[ef]at hq;obtain⟨rfl,rfl⟩:=hq
   exact PU E ho hh.1 hh.2 hl
  ·split at hc
   ·rename_i hh
    simp only[Option.map_eq_some_iff]at hc
    obtain⟨l,hl,rfl⟩:=hc
    simp[ef]at hq;obtain⟨rfl,rfl⟩:=hq
    exact PV E ho hh.1 hh.2 hl
   ·simp at hc
 ·rename_i ho
  split at hc
  ·rename_i e ht
   split at hc
   ·rename_i m z i h1 h2 h3
    split at hc
    ·rename_i hb
     simp only[Option.bind_eq_bind,Option.bind_eq_some_iff,Option.pure_def,Option.some.injEq]at hc
     obtain⟨l',h4,c',h5,rfl⟩:=hc
     simp only[ef,Option.map_eq_some_iff,Prod.mk.injEq]at hq
     obtain⟨⟨n,r⟩,hr,rfl,rfl⟩:=hq
     exact .inl (GL E ho ht h1 h2 h3 hb h4 h5 hr)
    ·simp at hc
   ·simp at hc
  ·simp at hc
 ·rename_i ho
  exact Ph ho hc hq S E
 ·rename_i ho
  split at hc
  ·rename_i dir e ht
   split at hc
   ·rename_i i hi
    split at hc
    ·rename_i hb
     simp only[Option.map_eq_some_iff]at hc
     obtain⟨x',hx,rfl⟩:=hc
     simp only[ef,Option.map_eq_some_iff,Prod.mk.injEq]at hq
     obtain⟨n,hn,rfl,rfl⟩:=hq
     exact .inr (.inr (Pb E ho ht hi hb hx hn))
    ·cases hc
   ·cases hc
  ·cases hc
 ·simp only[Option.bind_eq_bind,Option.bind_eq_some_iff,Option.pure_def,Option.some.injEq]at hc
  obtain⟨x',_,y',_,rfl⟩:=hc
  simp[ef]at hq
 ·split at hc
  ·split at hc
   ·simp only[Option.map_eq_some_iff]at hc
    obtain⟨x',_,rfl⟩:=hc
    simp[ef]at hq
   ·cases hc
  ·cases hc
 ·rename_i ho
  split at hc
  ·rename_i m z hm
   simp only[Option.some.injEq]at hc
   subst hc
   simp only[ef,List.map_nil,bp,Option.some.injEq,Prod.mk.injEq]at hq
   obtain⟨rfl,rfl⟩:=hq
   exact .inr (.inl (RU ho))
  ·cases hc
 ·rename_i ho
  split at hc
  ·rename_i m z x' k' hm hx hk
   simp only[Option.some.injEq]at hc
   subst hc
   obtain⟨rfl,h⟩:=PT (id:=id) S E ho hm hx hk hq
   exact h
  ·cases hc
 ·split at hc
  ·simp only[Option.some.injEq]at hc
   subst hc
   simp[ef]at hq
  ·cases hc
 ·split at hc
  ·simp only[Option.some.injEq]at hc
   subst hc
   simp[ef]at hq
  ·cases hc
 ·simp only[Option.some.injEq]at hc
  subst hc
  simp[ef]at hq
 ·simp only[Option.some.injEq]at hc
  subst hc
  simp[ef]at hq
 ·simp at hc
end
end Go.Proofs.YtgoljkjaameagaaGreat.V

namespace Go.Proofs.YtgoljkjaameagaaGreat.V
open Go.RowKit
variable {P:Program} {w w':World} {D D':Nat->Prop} {ι ι':Names}
def kd (ι:Names) (id:Id) (B:rL):Names:=fun i=>if i=id then some B else ι i
theorem eo (ι:Names) (id:Id) (B:rL):kd ι id B id=some B:=if_pos rfl
theorem fh {ι:Names} {id:Id} {B:rL} (h:ι id=none):∀i B',ι i=some B'->kd ι id B i=some B':=fun i B' hi=>by
 have:i≠id:=by rintro rfl;rw[h]at hi;cases hi
 rw[kd,if_neg this];exact hi
theorem gp {ι:Names} {id i:Id} {B:rL} (h:i≠id):kd ι id B i=ι i:=if_neg h
section
variable {g:Rows} {hs:Nat} {env:Env} {a:Act} {o:Oper} {id:Id} {v:AV}
theorem kV.frame {B:rL} {r:Row} (h:kV P w D ι B r) (hb:w'.heap[B.b]? =w.heap[B.b]?) (hr:∀a v,dd P w D ι a v->dd P w' D' ι' a v):kV P w' D' ι' B r:=
 ⟨h.sz,by obtain⟨c,T,h1,h2⟩:=h.wS;exact⟨c,T,hb.trans h1,h2⟩,h.fits,h.len,h.flat,fun i j cs a hi hj=>by
  obtain⟨v,h1,h2⟩:=h.at_ i j cs a hi hj
  exact⟨v,(World.cell?_of_block (a:=⟨B.b,i*r.sz+j,none⟩) hb).trans h1,hr _ _ h2⟩⟩
theorem gT.frame {B:rL} {r:Row} (h:gT P w D ι B r) (hb:w'.heap[B.b]? =w.heap[B.b]?) (hr:∀a v,dd P w D ι a v->dd P w' D' ι' a v):gT P w' D' ι' B r:=
 ⟨h.sz,h.flat,fun hk=>(h.row hk).frame hb hr,fun m hm=>by
  obtain⟨h1,es,c,h2,h3,h5,h4⟩:=h.map m hm
  refine⟨h1,es,c,hb.trans h2,h3,h5,fun i cs hi=>?_⟩
  obtain⟨e,kv,vv,q1,q2,q3,q4,q5⟩:=h4 i cs hi
  exact⟨e,kv,vv,q1,q2,q3,hr _ _ q4,hr _ _ q5⟩,fun c hc=>by
  obtain⟨h1,buf,s,q,h2,h3,h4⟩:=h.chan c hc
  refine⟨h1,buf,s,q,hb.trans h2,h3,fun i cs hi=>?_⟩
  obtain⟨a,u,q1,q2,q3⟩:=h4 i cs hi
  exact⟨a,u,q1,q2,hr _ _ q3⟩⟩
theorem gx.kill (S:gx P hs D ι g w) (i:Id):gx P hs D ι (bL g i) w:=by
 refine⟨S.lo,S.dead,fun id r h=>?_,fun id jG r r' B B' h h' hw hB dW hb=>?_⟩
 ·unfold bL at h;split at h
  ·cases h
  ·exact S.row id r h
 ·unfold bL at h h'
  split at h
  ·cases h
  ·split at h'
   ·cases h'
   ·exact S.inj id jG r r' B B' h h' hw hB dW hb
theorem gx.sub {g':Rows} (S:gx P hs D ι g w) (h:∀id r,g' id=some r->g id=some r):gx P hs D ι g' w:=
 ⟨S.lo,S.dead,fun id r hr=>S.row id r (h id r hr),fun id jG r r' B B' h1 h2=>S.inj id jG r r' B B' (h _ _ h1) (h _ _ h2)⟩
theorem zY {hid:List Nat} {n:Nat} {g:Rows}:∀id r,e8 hid n g id=some r->g id=some r:=fun id r h=>by
 cases hid with
 |nil=>exact h
 |cons a l=>
  have e:e8 (a::l) n g id=if (a::l).contains id.site=true/\id.cV=n then none else g id:=rfl
  rw[e]at h
  by_cases hc:(a::l).contains id.site=true/\id.cV=n
  ·rw[if_pos hc]at h;cases h
  ·rw[if_neg hc]at h;exact h
theorem gx.stay (S:gx P hs D ι g w) (hb:∀b,b<w.heap.size->w'.heap[b]? =w.heap[b]?) (hz:w.heap.size<=w'.heap.size) (hD:∀b,D b->D' b) (hD':∀b,D' b->b<w'.heap.size) (jY:∀b,D' b->D b∨w.heap.size<=b) (hι:∀id B,ι id=some B->ι' id=some B):gx P hs D' ι' g w':=by
 have hr:∀a v,dd P w D ι a v->dd P w' D' ι' a v:=fun a v h=>h.frame (fun b hd=>hb b (S.dead b hd)) hD hι
 have lt:∀{id r B},g id=some r->ι id=some B->B.b<w.heap.size:=fun {id r B} h hB=>by
  obtain⟨B',dW,R,_⟩:=S.row id r h
  rw[hB]at dW;injection dW with dW;subst dW
  exact R.lt
 refine⟨Nat.le_trans S.lo hz,hD',fun id r h=>?_,fun id jG r r' B B' h h' hw hB dW he=>?_⟩
 ·obtain⟨B,hB,R,h1,h2⟩:=S.row id r h
  exact⟨B,hι _ _ hB,R.frame (hb _ (lt h hB)) hr,h1,fun hw hd=>by
   rcases jY _ hd with hd|hd
   ·exact h2 hw hd
   ·have:=lt h hB;omega⟩
 ·obtain⟨C,hC,_⟩:=S.row id r h
  obtain⟨C',tx,_⟩:=S.row jG r' h'
  have e1:=hι _ _ hC
  have e2:=hι _ _ tx
  rw[hB]at e1;injection e1 with e1;subst e1
  rw[dW]at e2;injection e2 with e2;subst e2
  exact S.inj id jG r r' _ _ h h' hw hC tx he
theorem Step.stay (S:gx P hs D ι g w) (hb:∀b,b<w.heap.size->w'.heap[b]? =w.heap[b]?) (hz:w.heap.size<=w'.heap.size) (e1:w'.os=w.os) (e2:w'.tape=w.tape) (e3:w'.output=w.output) (hD:∀b,D b->D' b) (jY:∀b,D' b->D b∨w.heap.size<=b) (hι:∀id B,ι id=some B->ι' id=some B):Step hs D ι w D' ι' w':=
 ⟨⟨e1,e2,e3,hz,fun k hk=>hb k (Nat.lt_of_lt_of_le hk S.lo)⟩,fun b hd=>hb b (S.dead b hd),hD,hι,fun b h=>(jY b h).imp_right (Nat.le_trans S.lo)⟩
theorem gx.alloc (S:gx P hs D ι g w) {cells:Array Value} {T:TypeId} {r:Row} (hh:w'.heap=w.heap.push (.cells cells T (0,0))) (hn:ι id=none) (hw:r.w=true) (h1:r.rows.length*r.sz<=cells.size) (h2:∀cs∈r.rows,cs.length=r.sz) (h3:∀cs∈r.rows,∀a∈cs,a.cell=true)
  (h4:∀i j cs a,r.rows[i]? =some cs->cs[j]? =some a->∃x,cells[i*r.sz+j]? =some x/\dd P w D ι a x):gx P hs D (kd ι id ⟨w.heap.size,r.sz,cells.size,none⟩) (bD g id r) w':=by
 have hb:∀b,b<w.heap.size->w'.heap[b]? =w.heap[b]? :=fun b eh=>by rw[hh,Array.getElem?_push,if_neg ai]
 have hz:w.heap.size<=w'.heap.size:=by rw[hh];simp
 have S':=S.stay (D':=D) (ι':=kd ι id ⟨w.heap.size,r.sz,cells.size,none⟩) hb hz (fun _ h=>h) (fun b hd=>Nat.lt_of_lt_of_le (S.dead b hd) hz) (fun _ h=>.inl h) (fh hn)
 have hr:∀a v,dd P w D ι a v->dd P w' D (kd ι id ⟨w.heap.size,r.sz,cells.size,none⟩) a v:=fun a v h=>h.frame (fun b hd=>hb b (S.dead b hd)) (fun _ h=>h) (fh hn)
 have jY:w'.heap[w.heap.size]? =some (.cells cells T (0,0)):=by rw[hh];simp
 have gone:g id=none:=by
  cases hg:g id with
  |none=>rfl
  |some q=>
   obtain⟨B,hB,_⟩:=S.row id q hg
   rw[hn]at hB;cases hB
 have lt:∀{i q B},g i=some q->ι i=some B->B.b<w.heap.size:=fun {i q B} h hB=>by
  obtain⟨B',dW,R,_⟩:=S.row i q h
  rw[hB]at dW;injection dW with dW;subst dW
  exact R.lt
 refine⟨S'.lo,S'.dead,fun i q h=>?_,fun i i' q q' B B' h h' IW hB dW he=>?_⟩
 ·unfold bD at h
  split at h
  ·rename_i e
   subst e
   injection h with h;subst h
   refine⟨_,eo _ _ _,kV.obj ⟨rfl,⟨cells,T,jY,rfl⟩,h1,h2,h3,fun k j cs a hk hj=>?_⟩ rfl,fun _=>S.lo,fun _ hd=>?_⟩
   ·obtain⟨x,hx,hrx⟩:=h4 k j cs a hk hj
    exact⟨x,by simp[World.cell?,jY,hx],hr _ _ hrx⟩
   ·have:=S.dead _ hd;simp at this
  ·exact S'.row i q h
 ·unfold bD at h h'
  split at h
  ·rename_i e
   split at h'
   ·rename_i e';exact e.trans e'.symm
   ·exfalso
    rename_i e'
    subst e
    rw[eo]at hB;injection hB with hB;subst hB
    rw[gp e']at dW
    have:=lt h' dW
    simp at he;omega
  ·rename_i e
   split at h'
   ·exfalso
    rename_i e'
    subst e'
    rw[eo]at dW;injection dW with dW;subst dW
    rw[gp e]at hB
    have:=lt h hB
    simp at he;omega
   ·exact S'.inj i i' q q' B B' h h' IW hB dW he
theorem gx.put (S:gx P hs D ι g w) {r r':Row} {B:rL} {cur cur':Array Value} {T:TypeId} (hid:g id=some r) (hw:r.w=true) (hB:ι id=some B) (hblk:w.heap[B.b]? =some (.cells cur T (0,0))) (fu:cur'.size=cur.size)
  (h0:r'.w=true) (h1:r'.sz=r.sz) (h2:r'.rows.length*r'.sz<=B.C) (h3:∀cs∈r'.rows,cs.length=r'.sz) (h4:∀cs∈r'.rows,∀a∈cs,a.cell=true)
  (h5:∀i j cs a,r'.rows[i]? =some cs->cs[j]? =some a->∃v,cur'[i*r.sz+j]? =some v/\dd P w D ι a v):gx P hs D ι (bD g id r') (w.setRow B.b cur')/\Step hs D ι w D ι (w.setRow B.b cur'):=by
 obtain⟨B0,Bf,RO,ju,lu⟩:=S.row id r hid
 rw[hB]at Bf;injection Bf with Bf;subst Bf
 have r6:=RO.LY hblk
 have R:=RO.row r6
 have hd:∀b,D b->(w.setRow B.b cur').heap[b]? =w.heap[b]? :=fun b hb=>setRow_other w B.b b cur' (by rintro rfl;exact lu hw hb)
 have hr:∀a v,dd P w D ι a v->dd P (w.setRow B.b cur') D ι a v:=fun a v h=>h.frame hd (fun _ h=>h) (fun _ _ h=>h)
 have hC:cur.size=B.C:=by
  obtain⟨c,T',h1,h2⟩:=R.wS
  rw[hblk]at h1;injection h1 with h1;injection h1 with h1 Oe;subst h1;exact h2
 refine⟨⟨by simpa using S.lo,fun b hb=>by simpa using S.dead b hb,fun i q h=>?_,fun i i' q q' C C' h h' IW hC tx he=>?_⟩,⟨⟨by simp,by simp,by simp,by simp,fun k hk=>setRow_other w B.b k cur' (by have:=ju hw;omega)⟩,hd,fun _ h=>h,fun _ _ h=>h,fun _ h=>.inl h⟩⟩
 ·unfold bD at h
  split at h
  ·rename_i e
   subst e
   injection h with h;subst h
   refine⟨B,hB,kV.obj ⟨by rw[h1];exact R.sz,⟨cur',T,setRow_heap w B.b cur cur' T _ hblk,by rw[fu];exact hC⟩,h2,h3,h4,fun k j cs a hk hj=>?_⟩ r6,fun _=>ju hw,fun _=>lu hw⟩
   obtain⟨v,hv,k8⟩:=h5 k j cs a hk hj
   exact⟨v,by rw[cell_setRow_same w B.b _ cur cur' T _ hblk,h1];exact hv,hr _ _ k8⟩
  ·rename_i e
   obtain⟨C,hC,RC,k1,k2⟩:=S.row i q h
   refine⟨C,hC,RC.frame (setRow_other w B.b C.b cur' (fun MR=>e ?_)) hr,k1,k2⟩
   exact(S.inj id i r q B C hid h hw hB hC MR.symm).symm
 ·unfold bD at h h'
  have get:∀j p,(if j=id then some r' else g j)=some p->∃p0,g j=some p0/\(p.w=true->p0.w=true):=fun j p hp=>by
   split at hp
   ·rename_i e;subst e;injection hp with hp;subst hp;exact⟨r,hid,fun _=>hw⟩
   ·exact⟨p,hp,fun h=>h⟩
  obtain⟨p,hp,Ql⟩:=get _ _ h
  obtain⟨p',Lu,_⟩:=get _ _ h'
  exact S.inj i i' p p' C C' hp Lu (Ql IW) hC tx he
theorem gx.rename (S:gx P hs D ι g w) {i:Id} {r:Row} {B:rL} (hi:g i=some r) (hw:r.w=true) (hB:ι i=some B) (hn:ι id=none):gx P hs D (kd ι id B) (bD (bL g i) id r) w:=by
 have S':=S.stay (w':=w) (D':=D) (ι':=kd ι id B) (fun _ _=>rfl) (Nat.le_refl _) (fun _ h=>h) S.dead (fun _ h=>.inl h) (fh hn)
 have gP:i≠id:=by rintro rfl;rw[hn]at hB;cases hB
 obtain⟨B1,Ae,R,k1,k2⟩:=S'.row i r hi
 rw[gp gP,hB]at Ae;injection Ae with Ae;subst Ae
 have get:∀j p,bD (bL g i) id r j=some p->(j=id/\p=r)∨(j≠id/\j≠i/\g j=some p):=fun j p hp=>by
  unfold bD bL at hp
  split at hp
  ·rename_i e;injection hp with hp;exact .inl ⟨e,hp.symm⟩
  ·rename_i e
   split at hp
   ·cases hp
   ·rename_i e';exact .inr ⟨e,e',hp⟩
 refine⟨S.lo,S.dead,fun j p h=>?_,fun j j' p p' C C' h h' Ql hC tx he=>?_⟩
 ·rcases get j p h with⟨rfl,rfl⟩|⟨_,_,hp⟩
  ·exact⟨B,eo _ _ _,R,k1,k2⟩
  ·exact S'.row j p hp
 ·rcases get j p h with⟨rfl,rfl⟩|⟨q1,q2,hp⟩
  ·rcases get j' p' h' with⟨rfl,rfl⟩|⟨q1',q2',Lu⟩
   ·rfl
   ·exfalso
    rw[eo]at hC;injection hC with hC;subst hC
    rw[gp q1']at tx
    exact q2' (S.inj i j' p p' B C' hi Lu hw hB tx he).symm
  ·rcases get j' p' h' with⟨rfl,rfl⟩|⟨q1',q2',Lu⟩
   ·exfalso
    rw[eo]at tx;injection tx with tx;subst tx
    rw[gp q1]at hC
    exact q2 (S.inj j i p p' C B hp hi Ql hC hB he)
   ·rw[gp q1]at hC
    rw[gp q1']at tx
    exact S.inj j j' p p' C C' hp Lu Ql hC tx he
def CI (P:Program) (hs:Nat) (a:Act) (o:Oper) (w:World) (D:Nat->Prop) (ι:Names) (id:Id) (v:AV) (g':Rows):Prop:=
 ∃u w' ι',((execOp a.eval o).run P w=.ok (.value u) w'∨(execOp a.eval o).run P w=.ok .skip w'/\u=undef)/\Step hs D ι w D ι' w'/\gx P hs D ι' g' w'/\dd P w' D ι' v u/\∀i,i≠id->ι' i=ι i
theorem B4 {xs:List AV} {vs:Array Value} (h:fw P w D ι xs vs) (hf:∀a∈xs,a.cell=true):∀v∈vs.toList,v.oneCell'=true:=by
 intro v hv
 obtain⟨j,hj,rfl⟩:=List.getElem_of_mem hv
 have M1:j<xs.length:=by rw[<-h.1];simpa using hj
 obtain⟨u,hu,hr⟩:=h.2 j _ (List.getElem?_eq_getElem M1)
 have hc:=hr.AH (hf _ (List.getElem_mem M1))
 have:vs.toList[j]=u:=by
  have:vs.toList[j]? =some u:=by simpa using hu
  rw[List.getElem?_eq_getElem hj]at this;injection this
 rw[this]
 cases u<;>simp_all [Value.oneCell']
theorem jB {i j n m:Nat} (h:i<n) (hj:j<m):i*m+j<n*m:=by
 have:(i+1)*m<=n*m:=Nat.mul_le_mul_right _ h
 rw[Nat.add_mul,Nat.one_mul]at this;omega
theorem kV.cur {B:rL} {r:Row} (R:kV P w D ι B r):∃cur T,w.heap[B.b]? =some (.cells cur T (0,0))/\cur.size=B.C/\∀i j cs a,r.rows[i]? =some cs->cs[j]? =some a->∃v,cur[i*r.sz+j]? =some v/\dd P w D ι a v:=by
 obtain⟨cur,T,h1,h2⟩:=R.wS
 refine⟨cur,T,h1,h2,fun i j cs a hi hj=>?_⟩
 obtain⟨v,hv,hr⟩:=R.at_ i j cs a hi hj
 exact⟨v,by simpa[World.cell?,h1]using hv,hr⟩
theorem K4 {t:TypeId} {n:Nat} {x y:Operand} {x' y':O} {g':Rows} (S:gx P hs D ι g w) (E:cQ P w D ι env a) (ho:o.op=.store t x y) (hn:ep P t=some n) (hx:cO P x=some x') (hy:cO P y=some y')
  (hv:bB g n (cZ env y') (cZ env x')=some g'):CI P hs a o w D ι id .undef g':=by
 have rx:=dB E hx
 have ry:=dB E hy
 unfold bB at hv
 split at hv
 ·rename_i i k off hp
  rw[hp]at rx
  simp only[Option.bind_eq_some_iff]at hv
  obtain⟨r,hg,cs,dS,hv⟩:=hv
  split at hv
  ·rename_i hc
   obtain⟨c1,c2,c3,c4⟩:=hc
   simp at hv;subst hv
   obtain⟨B,he,hB,hk⟩:=iv rx
   obtain⟨B',dW,R,ju,lu⟩:=S.row i r hg
   rw[hB]at dW;injection dW with dW;subst dW
   replace R:=R.row hk
   obtain⟨cur,T,hblk,hC,uN⟩:=R.cur
   have hL:=qb ry c3
   have h1:=B4 hL (List.all_eq_true.1 c3)
   have RG:(a.eval y).cells.size=n:=by rw[hL.1,c2]
   have ml:=(List.getElem?_eq_some_iff.1 dS).1
   have hlen:=R.len cs (List.mem_of_getElem? dS)
   have hbound:k*r.sz+r.sz<=r.rows.length*r.sz:=by
    have:(k+1)*r.sz<=r.rows.length*r.sz:=Nat.mul_le_mul_right _ ml
    rwa [Nat.add_mul,Nat.one_mul]at this
   have hf:=R.fits
   have eb:=run_storeCells_at P B.b (k*B.sz+off) T (a.eval y).cells.toList 0 cur w hblk (by rw[R.sz];simp only[Array.length_toList];omega) h1
   simp only[Nat.add_zero,Array.length_toList]at eb
   have uT:=S.put (r':={r with rows:=r.rows.set k (cq cs off (cZ env y').cells)}) hg c1 hB hblk (cur':=(cur.toList.take (k*B.sz+off)++(a.eval y).cells.toList++cur.toList.drop (k*B.sz+off+(a.eval y).cells.size)).toArray)
    (by rw[R.sz];simp;omega) c1 rfl (by simpa using R.fits) (fun c Uq=>by
     rcases List.mem_or_eq_of_mem_set Uq with h|rfl
     ·exact R.len c h
     ·simp[cq];omega) (fun c Uq b hb=>by
     rcases List.mem_or_eq_of_mem_set Uq with h|rfl
     ·exact R.flat c h b hb
     ·unfold cq at hb
      rcases List.mem_append.1 hb with hb|hb
      ·rcases List.mem_append.1 hb with hb|hb
       ·exact R.flat cs (List.mem_of_getElem? dS) b (List.mem_of_mem_take hb)
       ·exact List.all_eq_true.1 c3 b hb
      ·exact R.flat cs (List.mem_of_getElem? dS) b (List.mem_of_mem_drop hb)) (fun i2 j c b xT hj=>by
     rw[R.sz]
     simp only[List.getElem?_toArray]
     by_cases xU:i2=k
     ·subst xU
      rw[List.getElem?_set_self ml]at xT
      injection xT with xT;subst xT
      unfold cq at hj
      by_cases hjo:j<off
      ·rw[List.append_assoc,List.getElem?_append_left (by simp;omega),List.getElem?_take,if_pos hjo]at hj
       rw[List.append_assoc,List.getElem?_append_left (by simp;omega),List.getElem?_take,if_pos ai]
       simpa using uN _ _ _ _ dS hj
      ·by_cases hZ:j<off+n
       ·rw[List.append_assoc,List.getElem?_append_right (by simp;omega),List.getElem?_append_left (by simp;omega)]at hj
        rw[List.append_assoc,List.getElem?_append_right (by simp;omega),List.getElem?_append_left (by simp;omega)]
        simp only[List.length_take]at hj ⊢
        rw[show j-min off cs.length=j-off by omega]at hj
        rw[show i2*r.sz+j-min (i2*r.sz+off) cur.toList.length=j-off by simp;omega]
        simpa using hL.2 _ _ hj
       ·rw[List.getElem?_append_right (by simp;omega)]at hj
        rw[List.getElem?_append_right (by simp;omega)]
        simp only[List.length_append,List.length_take,List.getElem?_drop,Array.length_toList]at hj ⊢
        rw[show off+(cZ env y').cells.length+(j-(min off cs.length+(cZ env y').cells.length))=j by omega]at hj
        rw[show i2*r.sz+off+(a.eval y).cells.size+(i2*r.sz+j-(min (i2*r.sz+off) cur.size+(a.eval y).cells.size))=i2*r.sz+j by omega]
        simpa using uN _ _ _ _ dS hj
     ·rw[List.getElem?_set_ne (fun e=>xU e.symm)]at xT
      have hi2l:=(List.getElem?_eq_some_iff.1 xT).1
      have gZ:j<r.sz:=by rw[<-R.len c (List.mem_of_getElem? xT)];exact(List.getElem?_eq_some_iff.1 hj).1
      have:=uN _ _ _ _ xT hj
      rcases Nat.lt_or_gt_of_ne xU with eh|Lj
      ·have h2:i2*r.sz+j<k*r.sz:=jB eh gZ
       rw[List.append_assoc,List.getElem?_append_left (by simp;omega),List.getElem?_take,if_pos ai]
       simpa using this
      ·have h2:k*r.sz+r.sz<=i2*r.sz:=by
        have:(k+1)*r.sz<=i2*r.sz:=Nat.mul_le_mul_right _ Lj
        rwa [Nat.add_mul,Nat.one_mul]at this
       rw[List.getElem?_append_right (by simp;omega)]
       simp only[List.length_append,List.length_take,List.getElem?_drop,Array.length_toList]
       rw[show k*r.sz+off+(a.eval y).cells.size+(i2*r.sz+j-(min (k*r.sz+off) cur.size+(a.eval y).cells.size))=i2*r.sz+j by omega]
       simpa using this)
   refine⟨undef,_,ι,.inr ⟨?_,rfl⟩,uT.2,uT.1,dd.undef,fun _ _=>rfl⟩
   simp only[execOp,ho,he,Instr.storeAt,Instr.sureAddr,storeVar,Sem.run_bind,Sem.run_pure,Result.andThen_ok,run_sizeOf hn,RG,ne_eq,not_true_eq_false,if_false,eb]
  ·simp at hv
 ·simp at hv
end
end Go.Proofs.YtgoljkjaameagaaGreat.V

namespace Go.Proofs.YtgoljkjaameagaaGreat.V
open Go.RowKit
variable {P:Program} {w w':World} {D D':Nat->Prop} {ι ι':Names}
section
variable {g:Rows} {hs:Nat} {env:Env} {a:Act} {o:Oper} {id:Id} {v:AV}
theorem qW (S:gx P hs D ι g w) {y:AV} {u:Value} {ys:List (List AV)} {sz:Nat} (hr:dd P w D ι y u) (hy:bj g y=some ys) (hl:∀c∈ys,c.length=sz) (hf:∀c∈ys,∀b∈c,b.cell=true):
  ∃A c,u=.slice A ys.length c/\(ys=[]∨∃b o,∃news:List Value,A=some ⟨b,o,none⟩/\news.length=ys.length*sz/\(∀j v,news[j]? =some v->w.cell? ⟨b,o+j,none⟩=some v)/\fw P w D ι ys.flatten news.toArray/\∀v∈news,v.oneCell'=true):=by
 have fin:∀b o,ys≠[]->(∀i j cs x,ys[i]? =some cs->cs[j]? =some x->∃v,w.cell? ⟨b,o+(i*sz+j),none⟩=some v/\dd P w D ι x v)->
   ∃news:List Value,news.length=ys.length*sz/\(∀j v,news[j]? =some v->w.cell? ⟨b,o+j,none⟩=some v)/\fw P w D ι ys.flatten news.toArray/\∀v∈news,v.oneCell'=true:=by
  intro b o _ h
  have hlen:=Is hl
  have at_:∀k,k<ys.length*sz->∃x,ys.flatten[k]? =some x/\∃v,w.cell? ⟨b,o+k,none⟩=some v/\dd P w D ι x v:=by
   intro k hk
   have jZ:0<sz:=by
    rcases Nat.eq_zero_or_pos sz with h0|h0
    ·subst h0;simp at hk
    ·exact h0
   have hi:k / sz<ys.length:=Nat.div_lt_of_lt_mul (by rw[Nat.mul_comm];exact hk)
   have hj:k % sz<sz:=Nat.mod_lt _ jZ
   have dS:=List.getElem?_eq_getElem hi
   have gZ:k % sz<ys[k / sz].length:=by rw[hl _ (List.getElem_mem hi)];exact hj
   have hx:=List.getElem?_eq_getElem gZ
   have e:k / sz*sz+k % sz=k:=by rw[Nat.mul_comm];exact Nat.div_add_mod _ _
   refine⟨_,by rw[<-flat_get hl dS hx,e],?_⟩
   obtain⟨v,hv,k8⟩:=h _ _ _ _ dS hx
   rw[e]at hv
   exact⟨v,hv,k8⟩
  let news:=(List.range (ys.length*sz)).map fun k=>(w.cell? ⟨b,o+k,none⟩).getD undef
  have hn:∀k,k<ys.length*sz->∀v,w.cell? ⟨b,o+k,none⟩=some v->news[k]? =some v:=fun k hk v hv=>by
   simp only[news,List.getElem?_map,List.getElem?_range hk,Option.map_some,hv,Option.getD_some]
  have hR:fw P w D ι ys.flatten news.toArray:=⟨by simp[news,hlen],fun j x hx=>by
   have gZ:=(List.getElem?_eq_some_iff.1 hx).1
   rw[hlen]at gZ
   obtain⟨x',wM,v,hv,k8⟩:=at_ j gZ
   rw[hx]at wM;injection wM with wM;subst wM
   exact⟨v,by simpa using hn j gZ v hv,k8⟩⟩
  refine⟨news,by simp[news],fun j v hj=>?_,hR,?_⟩
  ·have gZ:j<ys.length*sz:=by have:=(List.getElem?_eq_some_iff.1 hj).1;simpa[news]using this
   obtain⟨x,_,v',nw,_⟩:=at_ j gZ
   rw[hn j gZ v' nw]at hj
   injection hj with hj
   rw[<-hj];exact nw
  ·have:=B4 hR (fun x hx=>by
    obtain⟨c,hc,Vg⟩:=List.mem_flatten.1 hx
    exact hf c hc x Vg)
   simpa using this
 unfold bj at hy
 split at hy
 ·simp at hy;subst hy
  exact⟨none,0,jg hr,.inl rfl⟩
 ·rename_i rows
  simp at hy;subst hy
  obtain⟨A,c,he,_,_,h3⟩:=vM hr
  refine⟨A,c,he,?_⟩
  rcases h3 with h3|⟨b,oo,sz',vs,rfl,hD,Kz,_,hc,hi⟩
  ·exact .inl h3
  ·by_cases h0:rows=[]
   ·exact .inl h0
   ·have zi:sz'=sz:=by
     cases rows with
     |nil=>exact(h0 rfl).elim
     |cons c r=>rw[<-Kz c (by simp),hl c (by simp)]
    subst zi
    obtain⟨news,q1,q2,q3,q4⟩:=fin b oo h0 (fun i j cs x dS hx=>⟨_,hc i j (List.getElem?_eq_some_iff.1 dS).1 (by rw[<-Kz cs (List.mem_of_getElem? dS)];exact(List.getElem?_eq_some_iff.1 hx).1),.eM _ _ (hi i j cs x dS hx)⟩)
    exact .inr ⟨b,oo,news,rfl,q1,q2,q3,q4⟩
 ·rename_i i off len
  simp only[Option.bind_eq_some_iff]at hy
  obtain⟨r,hg,hy⟩:=hy
  split at hy
  ·rename_i hle
   simp at hy;subst hy
   obtain⟨oo,cap,B,he,hB,h1,h2,h3,h4,hk⟩:=iF hr
   obtain⟨B',dW,R,_,_⟩:=S.row i r hg
   rw[hB]at dW;injection dW with dW;subst dW
   replace R:=R.row hk
   have hlen:((r.rows.drop off).take len).length=len:=by simp;omega
   refine⟨some ⟨B.b,oo,none⟩,cap,by rw[hlen];exact he,?_⟩
   by_cases h0:(r.rows.drop off).take len=[]
   ·exact .inl h0
   ·have zi:r.sz=sz:=by
     cases hq:(r.rows.drop off).take len with
     |nil=>exact(h0 hq).elim
     |cons c q=>
      have hm:c∈(r.rows.drop off).take len:=by rw[hq];simp
      rw[<-hl c hm,R.len c (List.mem_of_mem_drop (List.mem_of_mem_take hm))]
    have hlp:0<len:=by rw[<-hlen];exact List.length_pos_iff.2 h0
    have w8:oo=off*B.sz:=by rcases h2 with h2|h2<;>omega
    obtain⟨news,q1,q2,q3,q4⟩:=fin B.b oo h0 (fun i2 j cs x dS hx=>by
     rw[List.getElem?_take]at dS
     split at dS
     ·rw[List.getElem?_drop]at dS
      obtain⟨v,hv,k8⟩:=R.at_ _ _ _ _ dS hx
      refine⟨v,?_,k8⟩
      rw[w8,R.sz,<-zi]
      rw[Nat.add_mul]at hv
      rw[<-Nat.add_assoc]
      exact hv
     ·simp at dS)
    exact .inr ⟨B.b,oo,news,rfl,q1,q2,q3,q4⟩
  ·simp at hy
 ·simp at hy
theorem ow {t ty e:TypeId} {i:TypeInfo} (ht:P.underlying t=some (.slice e)) (hi:P.info? e=some i) (A:Option Addr) (n c:Nat) (hn:n<=c) (B:Option Addr) (d:Nat):
  (Builtin.append_ #[t,t] ty #[.slice A n c,.slice B 0 d]).run P w=.ok (.slice A n c) w:=by
 have hf:(Builtin.firstCells i.size 0 (.slice B 0 d)).run P w=.ok #[] w:=by
  cases B<;>simp[Builtin.firstCells,loadCells,loadCellsFrom]
 cases A with
 |none=>simp[Builtin.append_,run_underlying ht,sizeOf,typeInfo,hi,Builtin.lenOf,hn,hf]
 |some A=>simp[Builtin.append_,run_underlying ht,sizeOf,typeInfo,hi,Builtin.lenOf,hn,hf,storeCells]
theorem xq {t ty e T:TypeId} {i:TypeInfo} (ht:P.underlying t=some (.slice e)) (hi:P.info? e=some i) (b q9 Ej:Nat) (cur:Array Value) (hg:w.heap[b]? =some (.cells cur T (0,0)))
  (x:Addr) (m c:Nat) (news:List Value) (hl:news.length=m*i.size) (Rt:∀j u,news[j]? =some u->w.cell? (x.add j)=some u) (h1:∀u∈news,u.oneCell'=true)
  (fV:q9+m<=Ej) (Bi:q9*i.size+news.length<=cur.size):
  (Builtin.append_ #[t,t] ty #[.slice (some ⟨b,0,none⟩) q9 Ej,.slice (some x) m c]).run P w=
   .ok (.slice (some ⟨b,0,none⟩) (q9+m) Ej) (w.setRow b (cur.toList.take (q9*i.size)++news++cur.toList.drop (q9*i.size+news.length)).toArray):=by
 have hf:=run_firstCells_some (P:=P) w i.size m x m c news hl Rt
 have eb:=run_storeCells_at P b (q9*i.size) T news 0 cur w hg (by simpa using Bi) h1
 simp only[Nat.add_zero]at eb
 simp[Builtin.append_,run_underlying ht,sizeOf,typeInfo,hi,Builtin.lenOf,fV,hf,jV,eb]
theorem Be (w:World) (GQ yn:Nat) (e:TypeId) (h:GQ<=dn):GQ<=grownCap w GQ yn e/\grownCap w GQ yn e<=maxLen:=by
 unfold dn at h
 simp only[grownCap,Question.cut,maxLen]
 have:=Nat.mod_lt (w.tape w.drawn (.appendCap GQ yn e)) (show 0<2 ^ 63-GQ by omega)
 omega
theorem fY {x y:Operand} {t:TypeId} {u:Value} (ho:o.op=.call {callee:=.builtin .append,args:= #[x,y],argTypes:= #[t,t]}) (h:(Builtin.append_ #[t,t] o.type #[a.eval x,a.eval y]).run P w=.ok u w'):(execOp a.eval o).run P w=.ok (.value u) w':=by
 simp only[execOp,ho,resolve,Sem.run_bind,Sem.run_pure,Result.andThen_ok,invoke,builtin]
 simp only[List.map_toArray,List.map_cons,List.map_nil]
 rw[h];rfl
theorem Cf {T:TypeId} (S:gx P hs D ι g w) (cells:Array Value) (hn:ι id=none) (B:rL):Step hs D ι w D (kd ι id B) (w.drew.alloc (.cells cells T)):=
 Step.stay S (fun k hk=>by show(w.heap.push _)[k]? = _;rw[Array.getElem?_push,if_neg ai]) (by show _<=(w.heap.push _).size;simp) rfl rfl rfl (fun _ h=>h) (fun _ h=>.inl h) (fh hn)
theorem Ig {x y:Operand} {x' y':O} {t e:TypeId} {m:Nat} {z:List K} {i:TypeInfo} {ys:List (List AV)} {g':Rows} (S:gx P hs D ι g w) (E:cQ P w D ι env a) (hn:ι id=none) (ho:o.op=.call {callee:=.builtin .append,args:= #[x,y],argTypes:= #[t,t]})
  (ht:P.underlying t=some (.slice e)) (fu:ep P e=some (m+1)) (hz:js P e=some z) (hi:P.info? e=some i) (hby:i.bytes<=32768) (hx:cO P x=some x') (hy:cO P y=some y') (Fk:bj g (cZ env y')=some ys)
  (hv:aJ g id (m+1) (cZ env x') ys=some (v,g')):CI P hs a o w D ι id v g':=by
 have rx:=dB E hx
 have ry:=dB E hy
 obtain⟨it,zv,pw,uV,Qt,hm,Fm⟩:=jF hz
 rw[hi]at pw;injection pw with pw;subst pw
 have jo:i.size=m+1:=by simpa[ep,hi]using fu
 have fits:∀n,n<=dn->n*i.bytes<=140737488355328:=fun n h=>by
  unfold dn at h
  have:=Nat.mul_le_mul h hby
  omega
 have e63:∀n,n<=dn->(n:Int)<=9223372036854775807:=fun n h=>by unfold dn at h;omega
 have same:∀(w1:World) (cells:Array Value),w1=w.drew.alloc (.cells cells e)->w1.heap=w.heap.push (.cells cells e (0,0)):=fun w1 cells h=>by subst h;rfl
 have QC:∀l:List (List AV),(l.all fun c=>c.length==m+1&&c.all AV.cell)=true->(∀c∈l,c.length=m+1)/\∀c∈l,∀b∈c,b.cell=true:=fun l h=>by
  rw[List.all_eq_true]at h
  refine⟨fun c hc=>?_,fun c hc b hb=>?_⟩
  ·have:=h c hc;simp at this;exact this.1
  ·have:=h c hc;simp at this;exact this.2 b hb
 unfold aJ at hv
 split at hv
 ·rename_i hb
  rw[hb]at rx
  have ex:=jg rx
  split at hv
  ·simp at hv
   obtain⟨rfl,rfl⟩:=hv
   obtain⟨A,c,ey,_⟩:=qW (sz:=m+1) S ry Fk (fun c h=>by cases h) (fun c h=>by cases h)
   refine⟨_,w,ι,.inl (fY ho (by rw[ex,ey];exact ow ht hi none 0 0 (Nat.le_refl _) A c)),Step.refl _ _ _ _,S,.eM _ _ .bS,fun _ _=>rfl⟩
  ·rename_i y0 yr
   split at hv
   ·rename_i hc
    simp only[Option.some.injEq,Prod.mk.injEq]at hv
    obtain⟨rfl,rfl⟩:=hv
    obtain⟨hl,hf⟩:=QC _ hc.2
    obtain⟨A,c,ey,h2⟩:=qW (sz:=m+1) S ry Fk hl hf
    rcases h2 with h2|⟨b,oo,news,rfl,q1,q2,q3,q4⟩
    ·cases h2
    have gi:=run_append_nil (P:=P) w t o.type e i zv ht hi uV ⟨b,oo,none⟩ (y0::yr).length c news (by rw[jo];exact q1) (fun j v hj=>by rw[jV];exact q2 j v hj) (by simp) (e63 _ hc.1) (by have:=fits _ hc.1;omega)
    obtain⟨g1,g2⟩:=Be w (y0::yr).length 0 e hc.1
    have dS:(news.toArray++Builtin.zeroCells zv.cells (grownCap w (y0::yr).length 0 e-(y0::yr).length)).size=grownCap w (y0::yr).length 0 e*(m+1):=by
     rw[Array.size_append,size_zeroCells,Qt,jo]
     simp only[List.size_toArray,q1]
     rw[<-Nat.add_mul];congr 1;omega
    have S1:=S.alloc (w':=w.drew.alloc (.cells (news.toArray++Builtin.zeroCells zv.cells (grownCap w (y0::yr).length 0 e-(y0::yr).length)) e)) (r:=⟨true,m+1,y0::yr⟩) rfl hn rfl (by rw[dS];exact Nat.mul_le_mul_right _ g1) hl hf
     (fun k j cs b2 hk hj=>by
      obtain⟨u,hu,xg⟩:=q3.2 _ _ (flat_get hl hk hj)
      refine⟨u,?_,xg⟩
      have eh:=(Array.getElem?_eq_some_iff.1 hu).1
      dsimp only
      rw[Array.getElem?_append_left eh];exact hu)
    have eb:=Cf (T:=e) S (news.toArray++Builtin.zeroCells zv.cells (grownCap w (y0::yr).length 0 e-(y0::yr).length)) hn ⟨w.heap.size,m+1,(news.toArray++Builtin.zeroCells zv.cells (grownCap w (y0::yr).length 0 e-(y0::yr).length)).size,none⟩
    refine⟨_,_,_,.inl (fY ho (by rw[ex,ey];exact gi)),eb,S1,?_,fun _ h=>gp h⟩
    refine .own _ _ _ _ _ _ (eo _ _ _) rfl g1 (.inr (by simp)) ?_ g2
    dsimp only;rw[dS];simp
   ·simp at hv
 ·rename_i i0 len hb
  rw[hb]at rx
  simp only[Option.bind_eq_some_iff]at hv
  obtain⟨r,hg,hv⟩:=hv
  split at hv
  ·rename_i hc
   obtain⟨c1,c2,c3,c4,c5⟩:=hc
   simp only[Option.some.injEq,Prod.mk.injEq]at hv
   obtain⟨rfl,rfl⟩:=hv
   obtain⟨hl,hf⟩:=QC _ c5
   obtain⟨A,c,ey,h2⟩:=qW (sz:=m+1) S ry Fk hl hf
   obtain⟨oo,cap,B,ex,hB,h1,w8,h3,h4,hk⟩:=iF rx
   obtain⟨B',dW,R,ju,lu⟩:=S.row _ _ hg
   rw[hB]at dW;injection dW with dW;subst dW
   replace R:=R.row hk
   have Iv:B.sz=m+1:=R.sz.trans c2
   have zr:∀cs∈r.rows++ys,cs.length=m+1:=fun cs dS=>by
    rcases List.mem_append.1 dS with h|h
    ·rw[<-c2];exact R.len cs h
    ·exact hl cs h
   have MM:∀cs∈r.rows++ys,∀b∈cs,b.cell=true:=fun cs dS=>by
    rcases List.mem_append.1 dS with h|h
    ·exact R.flat cs h
    ·exact hf cs h
   rcases h2 with rfl|⟨yb,yo,news,rfl,q1,q2,q3,q4⟩
   ·have Gr:=S.rename hg c1 hB hn
    refine⟨_,w,kd ι id B,.inl (fY ho (by rw[ex,ey];exact ow ht hi _ _ _ h1 A c)),⟨Below.refl _ _,fun _ _=>rfl,fun _ h=>h,fh hn,fun _ h=>.inl h⟩,?_,?_,fun _ h=>gp h⟩
    ·have:(⟨true,m+1,r.rows++[]⟩:Row)=r:=by cases r;simp_all
     rw[this];exact Gr
    ·simp only[List.length_nil,Nat.add_zero]
     exact .own _ _ _ _ _ B (eo _ _ _) hk h1 w8 h3 h4
   ·obtain⟨cur,T,hblk,hC,uN⟩:=R.cur
    by_cases fV:len+ys.length<=cap
    ·have Ta:ys≠[]->oo=0:=fun h=>by
      rcases w8 with w8|w8
      ·have:=List.length_pos_iff.2 h;omega
      ·simpa using w8
     by_cases hy0:ys=[]
     ·subst hy0
      have Gr:=S.rename hg c1 hB hn
      refine⟨_,w,kd ι id B,.inl (fY ho (by rw[ex,ey];exact ow ht hi _ _ _ h1 _ c)),⟨Below.refl _ _,fun _ _=>rfl,fun _ h=>h,fh hn,fun _ h=>.inl h⟩,?_,?_,fun _ h=>gp h⟩
      ·have:(⟨true,m+1,r.rows++[]⟩:Row)=r:=by cases r;simp_all
       rw[this];exact Gr
      ·simp only[List.length_nil,Nat.add_zero]
       exact .own _ _ _ _ _ B (eo _ _ _) hk h1 w8 h3 h4
     have ho0:=Ta hy0
     subst ho0
     have Bi:len*i.size+news.length<=cur.size:=by
      rw[jo,q1,hC,<-Nat.add_mul]
      refine Nat.le_trans ?_ h3
      rw[Iv,Nat.zero_add]
      exact Nat.mul_le_mul_right _ fV
     have gi:=xq (ty:=o.type) ht hi B.b len cap cur hblk ⟨yb,yo,none⟩ ys.length c news (by rw[jo];exact q1) (fun j v hj=>by rw[jV];exact q2 j v hj) q4 fV Bi
     have lS:cur.toList.length=cur.size:=Array.length_toList
     simp only[jo]at gi Bi
     obtain⟨P1,P2⟩:=S.put (r':=⟨true,m+1,r.rows++ys⟩) hg c1 hB hblk (cur':=(cur.toList.take (len*(m+1))++news++cur.toList.drop (len*(m+1)+news.length)).toArray) (by simp only[List.size_toArray,List.length_append,List.length_take,List.length_drop,lS];omega) rfl c2.symm
      (by dsimp only;rw[List.length_append,<-c3,<-Iv];refine Nat.le_trans (Nat.mul_le_mul_right _ fV) (Nat.le_trans (by simp) h3)) zr MM (fun k j cs b2 hk hj=>by
       simp only[List.getElem?_toArray]
       have gZ:j<m+1:=by rw[<-zr cs (List.mem_of_getElem? hk)];exact(List.getElem?_eq_some_iff.1 hj).1
       rw[c2]
       by_cases ml:k<r.rows.length
       ·rw[List.getElem?_append_left ml]at hk
        have h2:k*(m+1)+j<len*(m+1):=jB ai gZ
        rw[List.append_assoc,List.getElem?_append_left (by simp only[List.length_take,lS];omega),List.getElem?_take,if_pos h2]
        have:=uN k j cs b2 hk hj
        rw[c2]at this;simpa using this
       ·rw[List.getElem?_append_right ai]at hk
        have uQ:=(List.getElem?_eq_some_iff.1 hk).1
        have pY:len*(m+1)<=k*(m+1):=Nat.mul_le_mul_right _ ai
        have pZ:k*(m+1)+j-len*(m+1)=(k-r.rows.length)*(m+1)+j:=by
         rw[<-c3,Nat.sub_mul];omega
        obtain⟨u,hu,xg⟩:=q3.2 _ _ (flat_get hl hk hj)
        refine⟨u,?_,xg⟩
        have CE:news[(k-r.rows.length)*(m+1)+j]? =some u:=by simpa using hu
        have eh:=(List.getElem?_eq_some_iff.1 CE).1
        rw[List.append_assoc,List.getElem?_append_right (by simp only[List.length_take,lS];omega),List.getElem?_append_left (by simp only[List.length_take,lS];omega)]
        rw[<-CE]
        congr 1
        simp only[List.length_take,lS]
        omega)
     have eI:bD (bL (bD g i0 ⟨true,m+1,r.rows++ys⟩) i0) id ⟨true,m+1,r.rows++ys⟩=bD (bL g i0) id ⟨true,m+1,r.rows++ys⟩:=by
      funext q;simp only[bD,bL]
      by_cases h:q=id<;>by_cases h':q=i0<;>simp[h,h']
     have Gr:=P1.rename (i:=i0) (id:=id) (r:=⟨true,m+1,r.rows++ys⟩) (by simp[bD]) rfl hB hn
     rw[eI]at Gr
     refine⟨_,_,_,.inl (fY ho (by rw[ex,ey];exact gi)),P2.trans ⟨Below.refl _ _,fun _ _=>rfl,fun _ h=>h,fh hn,fun _ h=>.inl h⟩,Gr,?_,fun _ h=>gp h⟩
     exact .own _ _ _ _ _ B (eo _ _ _) hk fV (.inr (by simp)) h3 h4
    ·
     have holds:∃tD:List Value,tD.length=len*(m+1)/\(∀j v,tD[j]? =some v->w.cell? ⟨B.b,oo+j,none⟩=some v)/\fw P w D ι r.rows.flatten tD.toArray:=by
      obtain⟨A2,c2',e2,h2⟩:=qW (sz:=m+1) (u:=.slice (some ⟨B.b,oo,none⟩) len cap) S (.own i0 0 len oo cap B hB hk h1 w8 h3 h4) (ys:=r.rows) (by simp[bj,hg,c3]) (fun cs h=>by rw[<-c2];exact R.len cs h) R.flat
      rcases h2 with h2|⟨b2,o2,tD,rfl,p1,p2,p3,_⟩
      ·refine⟨[],by simp[c3,h2],fun j v h=>by simp at h,by rw[h2];exact⟨rfl,fun j a h=>by simp at h⟩⟩
      ·injection e2 with e2 _ _
       injection e2 with e2
       injection e2 with Kq e22 _
       subst Kq;subst e22
       exact⟨tD,by rw[p1,c3],p2,p3⟩
     obtain⟨tD,p1,p2,p3⟩:=holds
     have gi:=run_append_grow (P:=P) w t o.type e i zv ht hi uV ⟨B.b,oo,none⟩ len cap tD (by rw[jo];exact p1) (fun j v hj=>by rw[jV];exact p2 j v hj) ⟨yb,yo,none⟩ ys.length c news (by rw[jo];exact q1) (fun j v hj=>by rw[jV];exact q2 j v hj) ai (e63 _ c4) (growslice_fits ai (fits _ c4))
     obtain⟨g1,g2⟩:=Be w (len+ys.length) cap e c4
     have dS:(tD.toArray++news.toArray++Builtin.zeroCells zv.cells (grownCap w (len+ys.length) cap e-(len+ys.length))).size=grownCap w (len+ys.length) cap e*(m+1):=by
      rw[Array.size_append,Array.size_append,size_zeroCells,Qt,jo]
      simp only[List.size_toArray,q1,p1]
      rw[<-Nat.add_mul,<-Nat.add_mul];congr 1;omega
     have S1:=(S.kill i0).alloc (id:=id) (w':=w.drew.alloc (.cells (tD.toArray++news.toArray++Builtin.zeroCells zv.cells (grownCap w (len+ys.length) cap e-(len+ys.length))) e)) (r:=⟨true,m+1,r.rows++ys⟩) rfl hn rfl (by dsimp only;rw[dS,List.length_append,<-c3];exact Nat.mul_le_mul_right _ g1) zr MM
      (fun k j cs b2 hk hj=>by
       have Li:=flat_get zr hk hj
       rw[List.flatten_append]at Li
       have Lp:tD.length=r.rows.flatten.length:=by have:=p3.1;simpa using this
       dsimp only
       by_cases eh:k*(m+1)+j<r.rows.flatten.length
       ·rw[List.getElem?_append_left eh]at Li
        obtain⟨u,hu,xg⟩:=p3.2 _ _ Li
        refine⟨u,?_,xg⟩
        rw[Array.getElem?_append_left (by simp;omega),Array.getElem?_append_left (by simp;omega)];exact hu
       ·rw[List.getElem?_append_right ai]at Li
        obtain⟨u,hu,xg⟩:=q3.2 _ _ Li
        refine⟨u,?_,xg⟩
        have Bl:=(Array.getElem?_eq_some_iff.1 hu).1
        simp only[List.size_toArray]at Bl
        rw[Array.getElem?_append_left (by simp;omega),Array.getElem?_append_right (by simp;omega)]
        simp only[List.size_toArray,Lp];exact hu)
     have eb:=Cf (T:=e) S (tD.toArray++news.toArray++Builtin.zeroCells zv.cells (grownCap w (len+ys.length) cap e-(len+ys.length))) hn ⟨w.heap.size,m+1,(tD.toArray++news.toArray++Builtin.zeroCells zv.cells (grownCap w (len+ys.length) cap e-(len+ys.length))).size,none⟩
     refine⟨_,_,_,.inl (fY ho (by rw[ex,ey];exact gi)),eb,S1,?_,fun _ h=>gp h⟩
     refine .own _ _ _ _ _ _ (eo _ _ _) rfl g1 (.inr (by simp)) ?_ g2
     dsimp only;rw[dS];simp
  ·simp at hv
 ·simp at hv
theorem kF {x:Operand} {t:TypeId} {u:Value} (ho:o.op=.call {callee:=.builtin .clear,args:= #[x],argTypes:= #[t]}) (h:(Builtin.clear_ #[t] o.type #[a.eval x]).run P w=.ok u w'):(execOp a.eval o).run P w=.ok (.value u) w':=by
 simp only[execOp,ho,resolve,Sem.run_bind,Sem.run_pure,Result.andThen_ok,invoke,builtin]
 simp only[List.map_toArray,List.map_cons,List.map_nil]
 rw[h];rfl
theorem K3 {x:Operand} {x':O} {t e:TypeId} {m:Nat} {z:List K} {g':Rows} (S:gx P hs D ι g w) (E:cQ P w D ι env a) (ho:o.op=.call {callee:=.builtin .clear,args:= #[x],argTypes:= #[t]})
  (ht:P.underlying t=some (.slice e)) (fu:ep P e=some (m+1)) (hz:js P e=some z) (hx:cO P x=some x') (hv:bu g z (cZ env x')=some g'):CI P hs a o w D ι id .undef g':=by
 have rx:=dB E hx
 obtain⟨it,zv,hi,uV,Qt,hm,Fm⟩:=jF hz
 have jo:it.size=m+1:=by simpa[ep,hi]using fu
 unfold bu at hv
 split at hv
 ·rename_i hb
  rw[hb]at rx
  simp at hv;subst hv
  refine⟨undef,w,ι,.inl (kF ho (by rw[jg rx];simp only[Builtin.clear_,Sem.run_bind];simp[run_underlying ht,undef])),Step.refl _ _ _ _,S,dd.undef,fun _ _=>rfl⟩
 ·rename_i i off len hb
  rw[hb]at rx
  simp only[Option.bind_eq_some_iff]at hv
  obtain⟨r,hg,hv⟩:=hv
  split at hv
  ·rename_i hc
   obtain⟨c1,c2,c3⟩:=hc
   simp only[Option.some.injEq]at hv;subst hv
   obtain⟨oo,cap,B,ex,hB,h1,h2,h3,h4,hk⟩:=iF rx
   obtain⟨B',dW,R,ju,lu⟩:=S.row _ _ hg
   rw[hB]at dW;injection dW with dW;subst dW
   replace R:=R.row hk
   obtain⟨cur,T,hblk,hC,uN⟩:=R.cur
   by_cases h0:len=0
   ·subst h0
    have e1:({r with rows:=r.rows.take off++List.replicate 0 (z.map K.av)++r.rows.drop (off+0)}:Row)=r:=by cases r;simp
    rw[e1]
    have e2:bD g i r=g:=by
     funext q;unfold bD;split
     ·rename_i h;rw[h,hg]
     ·rfl
    rw[e2]
    refine⟨undef,w,ι,.inl (kF ho (by rw[ex];simp only[Builtin.clear_,Sem.run_bind];simp[run_underlying ht,undef])),Step.refl _ _ _ _,S,dd.undef,fun _ _=>rfl⟩
   ·have CB:oo=off*B.sz:=by rcases h2 with h2|h2<;>omega
    have Iv:B.sz=m+1:=by rw[R.sz,c2,Fm,jo]
    have xX:r.sz=m+1:=by rw[<-R.sz,Iv]
    have RL:zv.cells.size=m+1:=by rw[Qt,jo]
    have x7:(Builtin.zeroCells zv.cells len).toList.length=len*(m+1):=by rw[Array.length_toList,size_zeroCells,RL]
    have RK:∀k,k<len*(m+1)->∃c,z[k % z.length]? =some c/\(Builtin.zeroCells zv.cells len).toList[k]? =some c.val:=fun k hk=>by
     obtain⟨c,pr,Gh⟩:=oJ (n:=len*zv.cells.size) hm (by rw[Fm,jo];omega) k (by rw[RL];exact hk)
     exact⟨c,pr,by rw[Array.getElem?_toList];exact Gh⟩
    have hbound:(off+len)*(m+1)<=r.rows.length*(m+1):=Nat.mul_le_mul_right _ c3
    have Bj:=R.fits
    rw[xX]at Bj
    have Ux:(off+len)*(m+1)=off*(m+1)+len*(m+1):=Nat.add_mul _ _ _
    have eb:=run_storeCells_at P B.b oo T (Builtin.zeroCells zv.cells len).toList 0 cur w hblk (by rw[x7,hC,CB,Iv];omega) (by
     intro v hv
     obtain⟨k,hk,rfl⟩:=List.getElem_of_mem hv
     obtain⟨c,_,Gh⟩:=RK k (by rw[<-x7];exact hk)
     rw[List.getElem?_eq_getElem hk]at Gh
     injection Gh with Gh
     rw[Gh];cases c<;>rfl)
    simp only[Nat.add_zero]at eb
    have lS:cur.toList.length=cur.size:=Array.length_toList
    obtain⟨P1,P2⟩:=S.put (r':={r with rows:=r.rows.take off++List.replicate len (z.map K.av)++r.rows.drop (off+len)}) hg c1 hB hblk (cur':=(cur.toList.take oo++(Builtin.zeroCells zv.cells len).toList++cur.toList.drop (oo+(Builtin.zeroCells zv.cells len).toList.length)).toArray)
     (by simp only[List.size_toArray,List.length_append,List.length_take,List.length_drop,lS,x7];rw[CB,Iv];omega) c1 rfl (by
      have:(r.rows.take off++List.replicate len (z.map K.av)++r.rows.drop (off+len)).length=r.rows.length:=by simp;omega
      dsimp only;rw[this];exact R.fits) (fun cs dS=>by
      rcases List.mem_append.1 dS with h|h
      ·rcases List.mem_append.1 h with h|h
       ·exact R.len cs (List.mem_of_mem_take h)
       ·rw[List.eq_of_mem_replicate h];simp[c2]
      ·exact R.len cs (List.mem_of_mem_drop h)) (fun cs dS b hb=>by
      rcases List.mem_append.1 dS with h|h
      ·rcases List.mem_append.1 h with h|h
       ·exact R.flat cs (List.mem_of_mem_take h) b hb
       ·rw[List.eq_of_mem_replicate h]at hb
        obtain⟨c,_,rfl⟩:=List.mem_map.1 hb;exact c.mv
      ·exact R.flat cs (List.mem_of_mem_drop h) b hb) (fun k j cs b hk hj=>by
      simp only[List.getElem?_toArray]
      rw[xX]
      rw[CB,Iv,x7]
      by_cases wL:k<off
      ·rw[List.append_assoc,List.getElem?_append_left (by simp;omega),List.getElem?_take,if_pos wL]at hk
       have gZ:j<m+1:=by rw[<-xX,<-R.len cs (List.mem_of_getElem? hk)];exact(List.getElem?_eq_some_iff.1 hj).1
       have h2:=jB wL gZ
       rw[List.append_assoc,List.getElem?_append_left (by simp only[List.length_take,lS];omega),List.getElem?_take,if_pos h2]
       have:=uN k j cs b hk hj
       rw[xX]at this;simpa using this
      ·by_cases uQ:k<off+len
       ·rw[List.append_assoc,List.getElem?_append_right (by simp;omega),List.getElem?_append_left (by simp;omega)]at hk
        have gH:=List.eq_of_mem_replicate (List.mem_of_getElem? hk)
        subst gH
        simp only[List.getElem?_map,Option.map_eq_some_iff]at hj
        obtain⟨q,hq,rfl⟩:=hj
        have gZ:=(List.getElem?_eq_some_iff.1 hq).1
        rw[Fm,jo]at gZ
        have pY:off*(m+1)<=k*(m+1):=Nat.mul_le_mul_right _ ai
        have pZ:k*(m+1)+j-off*(m+1)=(k-off)*(m+1)+j:=by rw[Nat.sub_mul];omega
        have Bl:(k-off)*(m+1)+j<len*(m+1):=jB ai gZ
        rw[List.append_assoc,List.getElem?_append_right (by simp only[List.length_take,lS];omega),List.getElem?_append_left (by simp only[List.length_take,lS,x7];omega)]
        obtain⟨c,pr,Gh⟩:=RK _ Bl
        rw[Fm,jo,Nat.mul_comm (k-off),Nat.mul_add_mod,Nat.mod_eq_of_lt gZ,hq]at pr
        injection pr with pr;subst pr
        refine⟨q.val,?_,vK q⟩
        rw[<-Gh]
        congr 1
        simp only[List.length_take,lS];omega
       ·rw[List.getElem?_append_right (by simp;omega)]at hk
        simp only[List.length_append,List.length_take,List.length_replicate,List.getElem?_drop]at hk
        rw[show off+len+(k-(min off r.rows.length+len))=k by omega]at hk
        have ml:=(List.getElem?_eq_some_iff.1 hk).1
        have pY:(off+len)*(m+1)<=k*(m+1):=Nat.mul_le_mul_right _ ai
        rw[List.getElem?_append_right (by simp only[List.length_append,List.length_take,lS,x7];omega)]
        simp only[List.length_append,List.length_take,lS,x7,List.getElem?_drop]
        rw[show off*(m+1)+len*(m+1)+(k*(m+1)+j-(min (off*(m+1)) cur.size+len*(m+1)))=k*(m+1)+j by omega]
        have:=uN k j cs b hk hj
        rw[xX]at this;simpa using this)
    refine⟨undef,_,ι,.inl (kF ho ?_),P2,P1,dd.undef,fun _ _=>rfl⟩
    rw[ex]
    cases len with
    |zero=>exact(h0 rfl).elim
    |succ len=>
     simp only[Builtin.clear_,Sem.run_bind]
     simp[run_underlying ht,zeroValue,typeInfo,hi,uV,eb,undef]
  ·simp at hv
 ·simp at hv
theorem G7 {dT sT ty e:TypeId} {it:TypeInfo} (hu:P.underlying dT=some (.slice e)) (hi:P.info? e=some it) (A B:Option Addr) (q9 Ej F1 NT:Nat) (h0:Nat.min q9 F1=0):
  (Builtin.copy_ #[dT,sT] ty #[.slice A F1 NT,.slice B q9 Ej]).run P w=.ok (goInt 0) w:=by
 cases A<;>cases B<;>simp[Builtin.copy_,run_underlying hu,Builtin.lenOf,Builtin.firstCells,sizeOf,typeInfo,hi,h0,storeCells,loadCells,loadCellsFrom]
theorem G8 {dT sT ty e:TypeId} {it:TypeInfo} (hu:P.underlying dT=some (.slice e)) (hi:P.info? e=some it) (A B:Addr) (q9 Ej F1 NT:Nat) (cs:List Value) (hn:cs.length=Nat.min q9 F1*it.size) (hl:(loadCells B cs.length).run P w=.ok cs.toArray w) (hs:(storeCells A cs).run P w=.ok () w'):
  (Builtin.copy_ #[dT,sT] ty #[.slice (some A) F1 NT,.slice (some B) q9 Ej]).run P w=.ok (goInt (Nat.min q9 F1)) w':=by
 simp[Builtin.copy_,run_underlying hu,Builtin.lenOf,Builtin.firstCells,sizeOf,typeInfo,hi,<-hn,hl,hs]
theorem pA {x y:Operand} {t t2:TypeId} {u:Value} (ho:o.op=.call {callee:=.builtin .copy,args:= #[x,y],argTypes:= #[t,t2]}) (h:(Builtin.copy_ #[t,t2] o.type #[a.eval x,a.eval y]).run P w=.ok u w'):(execOp a.eval o).run P w=.ok (.value u) w':=by
 simp only[execOp,ho,resolve,Sem.run_bind,Sem.run_pure,Result.andThen_ok,invoke,builtin]
 simp only[List.map_toArray,List.map_cons,List.map_nil]
 rw[h];rfl
theorem NU {x y:Operand} {x' y':O} {t t2 e:TypeId} {m:Nat} {ys:List (List AV)} {v:AV} {g':Rows} (S:gx P hs D ι g w) (E:cQ P w D ι env a) (ho:o.op=.call {callee:=.builtin .copy,args:= #[x,y],argTypes:= #[t,t2]})
  (ht:P.underlying t=some (.slice e)) (fu:ep P e=some (m+1)) (hx:cO P x=some x') (hy:cO P y=some y') (Fk:bj g (cZ env y')=some ys) (hv:FG g (m+1) (cZ env x') ys=some (v,g')):CI P hs a o w D ι id v g':=by
 have rx:=dB E hx
 have ry:=dB E hy
 obtain⟨it,hi,jo⟩:∃it,P.info? e=some it/\it.size=m+1:=by
  cases hq:P.info? e with
  |none=>simp[ep,hq]at fu
  |some it=>exact⟨it,rfl,by simpa[ep,hq]using fu⟩
 unfold FG at hv
 split at hv
 ·rename_i i off len hb
  rw[hb]at rx
  simp only[Option.bind_eq_some_iff]at hv
  obtain⟨r,hg,hv⟩:=hv
  split at hv
  ·rename_i hc
   obtain⟨c1,c2,c3,c4⟩:=hc
   simp only[Option.some.injEq,Prod.mk.injEq]at hv
   obtain⟨rfl,rfl⟩:=hv
   rw[List.all_eq_true]at c4
   have hl:∀c∈ys,c.length=m+1:=fun c hc=>by have:=c4 c hc;simp at this;exact this.1
   have hf:∀c∈ys,∀b∈c,b.cell=true:=fun c hc b hb=>by have:=c4 c hc;simp at this;exact this.2 b hb
   obtain⟨oo,cap,B,ex,hB,h1,h2,h3,h4,hk⟩:=iF rx
   obtain⟨B',dW,R,ju,lu⟩:=S.row _ _ hg
   rw[hB]at dW;injection dW with dW;subst dW
   replace R:=R.row hk
   obtain⟨cur,T,hblk,hC,uN⟩:=R.cur
   obtain⟨A,sc,hu,hA⟩:=qW S ry Fk hl hf
   by_cases h0:min ys.length len=0
   ·rw[h0]
    have e1:({r with rows:=r.rows.take off++ys.take 0++r.rows.drop (off+0)}:Row)=r:=by cases r;simp
    rw[e1]
    have e2:bD g i r=g:=by
     funext q;unfold bD;split
     ·rename_i h;rw[h,hg]
     ·rfl
    rw[e2]
    refine⟨goInt 0,w,ι,.inl (pA ho (by rw[ex,hu];exact G7 ht hi _ _ _ _ _ _ h0)),Step.refl _ _ _ _,S,.eM _ _ (.int _ _),fun _ _=>rfl⟩
   ·rcases hA with rfl|⟨b,o2,news,rfl,CA,hsrc,hR,h1c⟩
    ·simp at h0
    have Rr:Nat.min ys.length len=min ys.length len:=rfl
    have hky:min ys.length len<=ys.length:=Nat.min_le_left _ _
    have ml:min ys.length len<=len:=Nat.min_le_right _ _
    generalize UH:min ys.length len=kk at *
    have M4:len≠0:=ai
    have CB:oo=off*B.sz:=by rcases h2 with h2|h2<;>omega
    have Iv:B.sz=m+1:=by rw[R.sz,c2]
    have xX:r.sz=m+1:=c2
    have S3:kk*(m+1)<=ys.length*(m+1):=Nat.mul_le_mul_right _ hky
    have x7:(news.take (kk*(m+1))).length=kk*(m+1):=by rw[List.length_take,CA];omega
    have hbound:(off+kk)*(m+1)<=r.rows.length*(m+1):=Nat.mul_le_mul_right _ ai
    have Bj:=R.fits
    rw[xX]at Bj
    have Ux:(off+kk)*(m+1)=off*(m+1)+kk*(m+1):=Nat.add_mul _ _ _
    have eb:=run_storeCells_at P B.b oo T (news.take (kk*(m+1))) 0 cur w hblk (by rw[x7,hC,CB,Iv];omega) (fun v hv=>h1c v (List.mem_of_mem_take hv))
    have S6:=run_loadCells_list (P:=P) w ⟨b,o2,none⟩ (news.take (kk*(m+1))) (fun j v hj=>by
     rw[List.getElem?_take]at hj
     split at hj
     ·have:=hsrc j v hj
      cases j with
      |zero=>simpa[Addr.add]using this
      |succ j=>simpa[Addr.add]using this
     ·cases hj)
    simp only[Nat.add_zero]at eb
    have lS:cur.toList.length=cur.size:=Array.length_toList
    have M9:(ys.take kk).length=kk:=by rw[List.length_take];omega
    obtain⟨P1,P2⟩:=S.put (r':={r with rows:=r.rows.take off++ys.take kk++r.rows.drop (off+kk)}) hg c1 hB hblk (cur':=(cur.toList.take oo++news.take (kk*(m+1))++cur.toList.drop (oo+(news.take (kk*(m+1))).length)).toArray)
     (by simp only[List.size_toArray,List.length_append,List.length_drop,lS,x7];rw[List.length_take,lS,CB,Iv];omega) c1 rfl (by
      have:(r.rows.take off++ys.take kk++r.rows.drop (off+kk)).length=r.rows.length:=by simp;omega
      dsimp only;rw[this];exact R.fits) (fun cs dS=>by
      rcases List.mem_append.1 dS with h|h
      ·rcases List.mem_append.1 h with h|h
       ·exact R.len cs (List.mem_of_mem_take h)
       ·rw[hl cs (List.mem_of_mem_take h)];exact c2.symm
      ·exact R.len cs (List.mem_of_mem_drop h)) (fun cs dS b hb=>by
      rcases List.mem_append.1 dS with h|h
      ·rcases List.mem_append.1 h with h|h
       ·exact R.flat cs (List.mem_of_mem_take h) b hb
       ·exact hf cs (List.mem_of_mem_take h) b hb
      ·exact R.flat cs (List.mem_of_mem_drop h) b hb) (fun k j cs b hk hj=>by
      simp only[List.getElem?_toArray]
      rw[xX]
      rw[CB,Iv,x7]
      by_cases wL:k<off
      ·rw[List.append_assoc,List.getElem?_append_left (by simp;omega),List.getElem?_take,if_pos wL]at hk
       have gZ:j<m+1:=by rw[<-xX,<-R.len cs (List.mem_of_getElem? hk)];exact(List.getElem?_eq_some_iff.1 hj).1
       have h2:=jB wL gZ
       rw[List.append_assoc,List.getElem?_append_left (by simp only[List.length_take,lS];omega),List.getElem?_take,if_pos h2]
       have:=uN k j cs b hk hj
       rw[xX]at this;simpa using this
      ·by_cases uQ:k<off+kk
       ·rw[List.append_assoc,List.getElem?_append_right (by simp;omega),List.getElem?_append_left (by simp;omega)]at hk
        simp only[List.length_take]at hk
        rw[show k-min off r.rows.length=k-off by omega,List.getElem?_take,if_pos ai]at hk
        have gZ:j<m+1:=by rw[<-hl cs (List.mem_of_getElem? hk)];exact(List.getElem?_eq_some_iff.1 hj).1
        have pY:off*(m+1)<=k*(m+1):=Nat.mul_le_mul_right _ ai
        have pZ:k*(m+1)+j-off*(m+1)=(k-off)*(m+1)+j:=by rw[Nat.sub_mul];omega
        have Bl:(k-off)*(m+1)+j<kk*(m+1):=jB ai gZ
        rw[List.append_assoc,List.getElem?_append_right (by simp only[List.length_take,lS];omega),List.getElem?_append_left (by rw[x7];simp only[List.length_take,lS];omega)]
        obtain⟨u,RB,hu2⟩:=hR.2 ((k-off)*(m+1)+j) b (flat_get hl hk hj)
        refine⟨u,?_,hu2⟩
        rw[List.getElem?_take]
        simp only[List.length_take,lS]
        rw[show k*(m+1)+j-min (off*(m+1)) cur.size=(k-off)*(m+1)+j by omega,if_pos Bl]
        simpa using RB
       ·rw[List.getElem?_append_right (by simp;omega)]at hk
        simp only[List.length_append,List.length_take,List.getElem?_drop]at hk
        rw[show off+kk+(k-(min off r.rows.length+min kk ys.length))=k by omega]at hk
        have ml:=(List.getElem?_eq_some_iff.1 hk).1
        have pY:(off+kk)*(m+1)<=k*(m+1):=Nat.mul_le_mul_right _ ai
        rw[List.getElem?_append_right (by rw[List.length_append,x7];simp only[List.length_take,lS];omega)]
        rw[List.getElem?_drop,List.length_append,x7]
        simp only[List.length_take,lS]
        rw[show off*(m+1)+kk*(m+1)+(k*(m+1)+j-(min (off*(m+1)) cur.size+kk*(m+1)))=k*(m+1)+j by omega]
        have:=uN k j cs b hk hj
        rw[xX]at this;simpa using this)
    refine⟨goInt kk,_,ι,.inl (pA ho ?_),P2,P1,.eM _ _ (.int _ _),fun _ _=>rfl⟩
    rw[ex,hu]
    have:=G8 (w:=w) (sT:=t2) (ty:=o.type) ht hi ⟨B.b,oo,none⟩ ⟨b,o2,none⟩ ys.length sc len cap _ (by rw[x7,Rr,jo]) S6 eb
    rw[Rr]at this
    exact this
  ·simp at hv
 ·simp at hv
end
end Go.Proofs.YtgoljkjaameagaaGreat.V

namespace Go.Proofs.YtgoljkjaameagaaGreat.V
open Go.RowKit
variable {P:Program} {w w':World} {D D' D2:Nat->Prop} {ι ι' ι2:Names}
section
variable {g:Rows} {hs:Nat}
theorem gC:∀{n:Nat} {l r:List AV},de g n l=some r->r.length=l.length/\∀(j:Nat) (b:AV),r[j]? =some b->∃a,l[j]? =some a/\fz g n a=some b
 |n,[],r,h=>by
  rw[de]at h;simp at h;subst h;simp
 |n,a::l,r,h=>by
  rw[de]at h
  split at h
  ·rename_i b hb
   simp only[Option.map_eq_some_iff]at h
   obtain⟨r',hr,rfl⟩:=h
   obtain⟨h1,h2⟩:=gC hr
   refine⟨by simp[h1],fun j c hj=>?_⟩
   cases j with
   |zero=>simp at hj;subst hj;exact⟨a,rfl,hb⟩
   |succ j=>simp at hj ⊢;exact h2 j c hj
  ·simp at h
theorem uL:∀{n:Nat} {l r:List (List AV)},ew g n l=some r->r.length=l.length/\∀(j:Nat) (b:List AV),r[j]? =some b->∃a,l[j]? =some a/\de g n a=some b
 |n,[],r,h=>by
  rw[ew]at h;simp at h;subst h;simp
 |n,a::l,r,h=>by
  rw[ew]at h
  split at h
  ·rename_i b hb
   simp only[Option.map_eq_some_iff]at h
   obtain⟨r',hr,rfl⟩:=h
   obtain⟨h1,h2⟩:=uL hr
   refine⟨by simp[h1],fun j c hj=>?_⟩
   cases j with
   |zero=>simp at hj;subst hj;exact⟨a,rfl,hb⟩
   |succ j=>simp at hj ⊢;exact h2 j c hj
  ·simp at h
theorem qF (hD:∀b,D b->D2 b) (wS:∀id row,g id=some row->row.w=true->∃B,ι id=some B/\gT P w D ι B row/\D2 B.b):∀(n:Nat) (a:AV) (u:Value) (r:AV),dd P w D ι a u->fz g n a=some r->dd P w D2 ι2 r u/\(a.cell=true->jl P w D2 r u/\r.cell=true):=by
 intro n
 induction n with
 |zero=>intro a u r _ h;rw[fz]at h;simp at h
 |succ n ih=>
  intro a u r hr h
  have both:∀{r:AV},jl P w D2 r u->r.cell=true->dd P w D2 ι2 r u/\(a.cell=true->jl P w D2 r u/\r.cell=true):=fun h1 h2=>⟨.eM _ _ h1,fun _=>⟨h1,h2⟩⟩
  cases a with
  |map id m=>rw[fz]at h;cases h
  |qx id=>rw[fz]at h;cases h
  |own id off len=>
   rw[fz]at h
   split at h
   ·rename_i row hg
    split at h
    ·rename_i hw
     split at h
     ·rename_i hle
      simp only[Option.map_eq_some_iff]at h
      obtain⟨rows,qI,rfl⟩:=h
      obtain⟨B,hB,R,Oj⟩:=wS id row hg hw
      obtain⟨o,cap,B',rfl,dW,h1,h2,h3,h4,hk⟩:=iF hr
      rw[hB]at dW;injection dW with dW;subst dW
      replace R:=R.row hk
      obtain⟨l1,l2⟩:=uL qI
      have hlen:rows.length=len:=by rw[l1];simp;omega
      by_cases h0:rows=[]
      ·subst h0
       simp at hlen;subst hlen
       exact both (.zL _ _ h4) rfl
      ·have hlp:0<len:=by rw[<-hlen];exact List.length_pos_iff.2 h0
       have ho:o=off*B.sz:=by rcases h2 with h2|h2<;>omega
       have src:∀i cs,rows[i]? =some cs->∃c0,row.rows[off+i]? =some c0/\de g n c0=some cs:=fun i cs hi=>by
        obtain⟨c0,jt,hf⟩:=l2 i cs hi
        rw[List.getElem?_take]at jt
        split at jt
        ·rw[List.getElem?_drop]at jt;exact⟨c0,jt,hf⟩
        ·simp at jt
       have cell:∀i j,i<len->j<row.sz->∃c0 a0 v,row.rows[off+i]? =some c0/\c0[j]? =some a0/\w.cell? ⟨B.b,o+(i*row.sz+j),none⟩=some v/\dd P w D ι a0 v:=fun i j hi hj=>by
        have pw:off+i<row.rows.length:=ai
        have e1:=List.getElem?_eq_getElem pw
        have M1:j<row.rows[off+i].length:=by rw[R.len _ (List.getElem_mem pw)];exact hj
        obtain⟨v,hv,k8⟩:=R.at_ _ _ _ _ e1 (List.getElem?_eq_getElem M1)
        refine⟨_,_,v,e1,List.getElem?_eq_getElem M1,?_,k8⟩
        rw[ho,R.sz,<-hv]
        congr 2
        rw[Nat.add_mul];omega
       refine both (.sl rows B.b o len cap row.sz (fun i j=>(w.cell? ⟨B.b,o+(i*row.sz+j),none⟩).getD undef) hlen h1 h4 Oj (fun cs dS=>?_) (fun cs dS b hb=>?_) (fun i j hi hj=>?_) (fun i j cs b hi hj=>?_)) rfl
       ·obtain⟨i,hi,rfl⟩:=List.getElem_of_mem dS
        obtain⟨c0,jt,hf⟩:=src i _ (List.getElem?_eq_getElem hi)
        rw[(gC hf).1];exact R.len c0 (List.mem_of_getElem? jt)
       ·obtain⟨i,hi,rfl⟩:=List.getElem_of_mem dS
        obtain⟨c0,jt,hf⟩:=src i _ (List.getElem?_eq_getElem hi)
        obtain⟨j,hj,rfl⟩:=List.getElem_of_mem hb
        obtain⟨a0,kJ,IF⟩:=(gC hf).2 j _ (List.getElem?_eq_getElem hj)
        obtain⟨v,_,k8⟩:=R.at_ _ _ _ _ jt kJ
        exact((ih _ _ _ k8 IF).2 (R.flat c0 (List.mem_of_getElem? jt) a0 (List.mem_of_getElem? kJ))).2
       ·obtain⟨c0,a0,v,_,_,hv,_⟩:=cell i j hi hj
        simp only[hv,Option.getD_some]
       ·obtain⟨c0,jt,hf⟩:=src i cs hi
        obtain⟨a0,kJ,IF⟩:=(gC hf).2 j b hj
        have mi:i<len:=by rw[<-hlen];exact(List.getElem?_eq_some_iff.1 hi).1
        have gZ:j<row.sz:=by rw[<-R.len c0 (List.mem_of_getElem? jt)];exact(List.getElem?_eq_some_iff.1 kJ).1
        obtain⟨c1,a1,v,e1,e2,hv,k8⟩:=cell i j mi gZ
        rw[jt]at e1;injection e1 with e1;subst e1
        rw[kJ]at e2;injection e2 with e2;subst e2
        simp only[hv,Option.getD_some]
        exact((ih _ _ _ k8 IF).2 (R.flat c0 (List.mem_of_getElem? jt) a0 (List.mem_of_getElem? kJ))).1
     ·simp at h
    ·simp at h
   ·simp at h
  |ptr id i off=>
   rw[fz]at h
   split at h
   ·rename_i row hg
    split at h
    ·rename_i hw
     split at h
     ·rename_i c0 jt
      simp only[Option.map_eq_some_iff]at h
      obtain⟨cs,dS,rfl⟩:=h
      obtain⟨B,hB,R,Oj⟩:=wS id row hg hw
      obtain⟨B',rfl,dW,hk⟩:=iv hr
      rw[hB]at dW;injection dW with dW;subst dW
      replace R:=R.row hk
      obtain⟨l1,l2⟩:=gC dS
      have at_:∀j b,cs[j]? =some b->∃a0 v,w.cell? ⟨B.b,i*B.sz+off+j,none⟩=some v/\dd P w D ι a0 v/\a0.cell=true/\fz g n a0=some b:=fun j b hj=>by
       obtain⟨a0,kJ,hf⟩:=l2 j b hj
       rw[List.getElem?_drop]at kJ
       obtain⟨v,hv,k8⟩:=R.at_ _ _ _ _ jt kJ
       refine⟨a0,v,?_,k8,R.flat c0 (List.mem_of_getElem? jt) a0 (List.mem_of_getElem? kJ),hf⟩
       rw[R.sz,Nat.add_assoc];exact hv
      refine both (.dt cs B.b _ (fun j=>(w.cell? ⟨B.b,i*B.sz+off+j,none⟩).getD undef) Oj (fun b hb=>?_) (fun j hj=>?_) (fun j b hj=>?_)) rfl
      ·obtain⟨j,hj,rfl⟩:=List.getElem_of_mem hb
       obtain⟨a0,v,_,k8,hc,hf⟩:=at_ j _ (List.getElem?_eq_getElem hj)
       exact((ih _ _ _ k8 hf).2 hc).2
      ·obtain⟨a0,v,hv,_⟩:=at_ j _ (List.getElem?_eq_getElem hj)
       simp only[hv,Option.getD_some]
      ·obtain⟨a0,v,hv,k8,hc,hf⟩:=at_ j b hj
       simp only[hv,Option.getD_some]
       exact((ih _ _ _ k8 hf).2 hc).1
     ·simp at h
    ·simp at h
   ·simp at h
  |agg cs=>
   rw[fz]at h
   simp only[Option.map_eq_some_iff]at h
   obtain⟨r',nA,rfl⟩:=h
   obtain⟨vs,f,rfl,h1,h2,h3,h4⟩:=iu hr
   obtain⟨l1,l2⟩:=gC nA
   have hI:jl P w D2 (.agg r') (.agg vs):=.agg r' vs f (by rw[h1,l1]) (fun b hb=>by
    obtain⟨j,hj,rfl⟩:=List.getElem_of_mem hb
    obtain⟨a0,kJ,hf⟩:=l2 j _ (List.getElem?_eq_getElem hj)
    exact((ih _ _ _ (h4 j a0 kJ) hf).2 (h2 a0 (List.mem_of_getElem? kJ))).2) (fun j hj=>h3 j (by rw[<-l1];exact hj)) (fun j b hj=>by
    obtain⟨a0,kJ,hf⟩:=l2 j b hj
    exact((ih _ _ _ (h4 j a0 kJ) hf).2 (h2 a0 (List.mem_of_getElem? kJ))).1)
   exact⟨.eM _ _ hI,fun hc=>by simp[AV.cell]at hc⟩
  |gn cs=>
   rw[fz]at h
   simp only[Option.map_eq_some_iff]at h
   obtain⟨r',nA,rfl⟩:=h
   obtain⟨vs,f,rfl,h1,h3,h4⟩:=tZ hr
   obtain⟨l1,l2⟩:=gC nA
   exact⟨.gn r' vs f (by rw[h1,l1]) (fun j hj=>h3 j (by rw[<-l1];exact hj)) (fun j b hj=>by
    obtain⟨a0,kJ,hf⟩:=l2 j b hj
    exact(ih _ _ _ (h4 j a0 kJ) hf).1),fun hc=>by simp[AV.cell]at hc⟩
  |fn f di=>
   rw[fz]at h
   split at h
   ·rename_i ee
    simp only[Option.map_eq_some_iff]at h
    obtain⟨r',nA,rfl⟩:=h
    obtain⟨vs,q,rfl,h0,h1,h3,h4⟩:=zE hr
    obtain⟨l1,l2⟩:=gC nA
    exact both (.fn f r' vs q h0 (by rw[h1,l1]) (fun j hj=>h3 j (by rw[<-l1];exact hj)) (fun j b hj=>by
     obtain⟨a0,kJ,hf⟩:=l2 j b hj
     exact((ih _ _ _ (h4 j a0 kJ) hf).2 (List.all_eq_true.1 ee a0 (List.mem_of_getElem? kJ))).1)) rfl
   ·simp at h
  |int k m=>rw[fz]at h<;>(try simp at h)<;>(try subst h)<;>(try(rw[dL hr];exact⟨.eM _ _ (.int _ _),fun _=>⟨.int _ _,rfl⟩⟩))<;>(try(intros;simp_all))
  |bool b=>rw[fz]at h<;>(try simp at h)<;>(try subst h)<;>(try(rw[fe hr];exact⟨.eM _ _ (.bool _),fun _=>⟨.bool _,rfl⟩⟩))<;>(try(intros;simp_all))
  |str b=>rw[fz]at h<;>(try simp at h)<;>(try subst h)<;>(try(rw[fI hr];exact⟨.eM _ _ (.str _),fun _=>⟨.str _,rfl⟩⟩))<;>(try(intros;simp_all))
  |bS=>rw[fz]at h<;>(try simp at h)<;>(try subst h)<;>(try(rw[jg hr];exact⟨.eM _ _ .bS,fun _=>⟨.bS,rfl⟩⟩))<;>(try(intros;simp_all))
  |iJ=>rw[fz]at h<;>(try simp at h)<;>(try subst h)<;>(try(rw[vL hr];exact⟨.eM _ _ .iJ,fun _=>⟨.iJ,rfl⟩⟩))<;>(try(intros;simp_all))
  |iT=>rw[fz]at h<;>(try simp at h)<;>(try subst h)<;>(try(rw[B7 hr];exact⟨.eM _ _ .iT,fun _=>⟨.iT,rfl⟩⟩))<;>(try(intros;simp_all))
  |tY f di=>rw[fz]at h<;>(try simp at h)<;>(try(intros;simp_all))
  |gE=>rw[fz]at h<;>(try simp at h)<;>(try subst h)<;>(try(cases hr with|eM _ _ hr=>exact both (hr.frame (fun _ _=>rfl) hD) rfl))<;>(try(intros;simp_all))
  |sl rows=>rw[fz]at h<;>(try simp at h)<;>(try subst h)<;>(try(cases hr with|eM _ _ hr=>exact both (hr.frame (fun _ _=>rfl) hD) rfl))<;>(try(intros;simp_all))
  |dt cs=>rw[fz]at h<;>(try simp at h)<;>(try subst h)<;>(try(cases hr with|eM _ _ hr=>exact both (hr.frame (fun _ _=>rfl) hD) rfl))<;>(try(intros;simp_all))
theorem iH:∀{n:Nat} {l r:List AV},eB g n l=some r->r.length=l.length/\∀(j:Nat) (b:AV),r[j]? =some b->∃a,l[j]? =some a/\gq g n a=some b
 |n,[],r,h=>by
  rw[eB]at h;simp at h;subst h;simp
 |n,a::l,r,h=>by
  rw[eB]at h
  split at h
  ·rename_i b hb
   simp only[Option.map_eq_some_iff]at h
   obtain⟨r',hr,rfl⟩:=h
   obtain⟨h1,h2⟩:=iH hr
   refine⟨by simp[h1],fun j c hj=>?_⟩
   cases j with
   |zero=>simp at hj;subst hj;exact⟨a,rfl,hb⟩
   |succ j=>simp at hj ⊢;exact h2 j c hj
  ·simp at h
theorem sQ:∀{n:Nat} {l r:List (List AV)},gU g n l=some r->r.length=l.length/\∀(j:Nat) (b:List AV),r[j]? =some b->∃a,l[j]? =some a/\eB g n a=some b
 |n,[],r,h=>by
  rw[gU]at h;simp at h;subst h;simp
 |n,a::l,r,h=>by
  rw[gU]at h
  split at h
  ·rename_i b hb
   simp only[Option.map_eq_some_iff]at h
   obtain⟨r',hr,rfl⟩:=h
   obtain⟨h1,h2⟩:=sQ hr
   refine⟨by simp[h1],fun j c hj=>?_⟩
   cases j with
   |zero=>simp at hj;subst hj;exact⟨a,rfl,hb⟩
   |succ j=>simp at hj ⊢;exact h2 j c hj
  ·simp at h
theorem Gd (wS:∀id row,g id=some row->row.w=true->∃B,ι id=some B/\gT P w D ι B row/\D2 B.b):∀(n:Nat) (a:AV) (u:Value) (r:AV),dd P w D ι a u->gq g n a=some r->dd P w D2 ι2 r u/\(a.cell=true->jl P w D2 r u/\r.cell=true):=by
 intro n
 induction n with
 |zero=>intro a u r _ h;rw[gq]at h;simp at h
 |succ n ih=>
  intro a u r hr h
  have both:∀{r:AV},jl P w D2 r u->r.cell=true->dd P w D2 ι2 r u/\(a.cell=true->jl P w D2 r u/\r.cell=true):=fun h1 h2=>⟨.eM _ _ h1,fun _=>⟨h1,h2⟩⟩
  cases a with
  |map id m=>rw[gq]at h<;>simp_all
  |qx id=>rw[gq]at h<;>simp_all
  |own id off len=>
   rw[gq]at h
   split at h
   ·rename_i row hg
    split at h
    ·rename_i hw
     split at h
     ·rename_i hle
      simp only[Option.map_eq_some_iff]at h
      obtain⟨rows,qI,rfl⟩:=h
      obtain⟨B,hB,R,Oj⟩:=wS id row hg hw
      obtain⟨o,cap,B',rfl,dW,h1,h2,h3,h4,hk⟩:=iF hr
      rw[hB]at dW;injection dW with dW;subst dW
      replace R:=R.row hk
      obtain⟨l1,l2⟩:=sQ qI
      have hlen:rows.length=len:=by rw[l1];simp;omega
      by_cases h0:rows=[]
      ·subst h0
       simp at hlen;subst hlen
       exact both (.zL _ _ h4) rfl
      ·have hlp:0<len:=by rw[<-hlen];exact List.length_pos_iff.2 h0
       have ho:o=off*B.sz:=by rcases h2 with h2|h2<;>omega
       have src:∀i cs,rows[i]? =some cs->∃c0,row.rows[off+i]? =some c0/\eB g n c0=some cs:=fun i cs hi=>by
        obtain⟨c0,jt,hf⟩:=l2 i cs hi
        rw[List.getElem?_take]at jt
        split at jt
        ·rw[List.getElem?_drop]at jt;exact⟨c0,jt,hf⟩
        ·simp at jt
       have cell:∀i j,i<len->j<row.sz->∃c0 a0 v,row.rows[off+i]? =some c0/\c0[j]? =some a0/\w.cell? ⟨B.b,o+(i*row.sz+j),none⟩=some v/\dd P w D ι a0 v:=fun i j hi hj=>by
        have pw:off+i<row.rows.length:=ai
        have e1:=List.getElem?_eq_getElem pw
        have M1:j<row.rows[off+i].length:=by rw[R.len _ (List.getElem_mem pw)];exact hj
        obtain⟨v,hv,k8⟩:=R.at_ _ _ _ _ e1 (List.getElem?_eq_getElem M1)
        refine⟨_,_,v,e1,List.getElem?_eq_getElem M1,?_,k8⟩
        rw[ho,R.sz,<-hv]
        congr 2
        rw[Nat.add_mul];omega
       refine both (.sl rows B.b o len cap row.sz (fun i j=>(w.cell? ⟨B.b,o+(i*row.sz+j),none⟩).getD undef) hlen h1 h4 Oj (fun cs dS=>?_) (fun cs dS b hb=>?_) (fun i j hi hj=>?_) (fun i j cs b hi hj=>?_)) rfl
       ·obtain⟨i,hi,rfl⟩:=List.getElem_of_mem dS
        obtain⟨c0,jt,hf⟩:=src i _ (List.getElem?_eq_getElem hi)
        rw[(iH hf).1];exact R.len c0 (List.mem_of_getElem? jt)
       ·obtain⟨i,hi,rfl⟩:=List.getElem_of_mem dS
        obtain⟨c0,jt,hf⟩:=src i _ (List.getElem?_eq_getElem hi)
        obtain⟨j,hj,rfl⟩:=List.getElem_of_mem hb
        obtain⟨a0,kJ,IF⟩:=(iH hf).2 j _ (List.getElem?_eq_getElem hj)
        obtain⟨v,_,k8⟩:=R.at_ _ _ _ _ jt kJ
        exact((ih _ _ _ k8 IF).2 (R.flat c0 (List.mem_of_getElem? jt) a0 (List.mem_of_getElem? kJ))).2
       ·obtain⟨c0,a0,v,_,_,hv,_⟩:=cell i j hi hj
        simp only[hv,Option.getD_some]
       ·obtain⟨c0,jt,hf⟩:=src i cs hi
        obtain⟨a0,kJ,IF⟩:=(iH hf).2 j b hj
        have mi:i<len:=by rw[<-hlen];exact(List.getElem?_eq_some_iff.1 hi).1
        have gZ:j<row.sz:=by rw[<-R.len c0 (List.mem_of_getElem? jt)];exact(List.getElem?_eq_some_iff.1 kJ).1
        obtain⟨c1,a1,v,e1,e2,hv,k8⟩:=cell i j mi gZ
        rw[jt]at e1;injection e1 with e1;subst e1
        rw[kJ]at e2;injection e2 with e2;subst e2
        simp only[hv,Option.getD_some]
        exact((ih _ _ _ k8 IF).2 (R.flat c0 (List.mem_of_getElem? jt) a0 (List.mem_of_getElem? kJ))).1
     ·simp at h
    ·simp at h
   ·simp at h
  |ptr id i off=>
   rw[gq]at h
   split at h
   ·rename_i row hg
    split at h
    ·rename_i hw
     split at h
     ·rename_i c0 jt
      simp only[Option.map_eq_some_iff]at h
      obtain⟨cs,dS,rfl⟩:=h
      obtain⟨B,hB,R,Oj⟩:=wS id row hg hw
      obtain⟨B',rfl,dW,hk⟩:=iv hr
      rw[hB]at dW;injection dW with dW;subst dW
      replace R:=R.row hk
      obtain⟨l1,l2⟩:=iH dS
      have at_:∀j b,cs[j]? =some b->∃a0 v,w.cell? ⟨B.b,i*B.sz+off+j,none⟩=some v/\dd P w D ι a0 v/\a0.cell=true/\gq g n a0=some b:=fun j b hj=>by
       obtain⟨a0,kJ,hf⟩:=l2 j b hj
       rw[List.getElem?_drop]at kJ
       obtain⟨v,hv,k8⟩:=R.at_ _ _ _ _ jt kJ
       refine⟨a0,v,?_,k8,R.flat c0 (List.mem_of_getElem? jt) a0 (List.mem_of_getElem? kJ),hf⟩
       rw[R.sz,Nat.add_assoc];exact hv
      refine both (.dt cs B.b _ (fun j=>(w.cell? ⟨B.b,i*B.sz+off+j,none⟩).getD undef) Oj (fun b hb=>?_) (fun j hj=>?_) (fun j b hj=>?_)) rfl
      ·obtain⟨j,hj,rfl⟩:=List.getElem_of_mem hb
       obtain⟨a0,v,_,k8,hc,hf⟩:=at_ j _ (List.getElem?_eq_getElem hj)
       exact((ih _ _ _ k8 hf).2 hc).2
      ·obtain⟨a0,v,hv,_⟩:=at_ j _ (List.getElem?_eq_getElem hj)
       simp only[hv,Option.getD_some]
      ·obtain⟨a0,v,hv,k8,hc,hf⟩:=at_ j b hj
       simp only[hv,Option.getD_some]
       exact((ih _ _ _ k8 hf).2 hc).1
     ·simp at h
    ·simp at h
   ·simp at h
  |agg cs=>
   rw[gq]at h
   simp only[Option.map_eq_some_iff]at h
   obtain⟨r',nA,rfl⟩:=h
   obtain⟨vs,f,rfl,h1,h2,h3,h4⟩:=iu hr
   obtain⟨l1,l2⟩:=iH nA
   have hI:jl P w D2 (.agg r') (.agg vs):=.agg r' vs f (by rw[h1,l1]) (fun b hb=>by
    obtain⟨j,hj,rfl⟩:=List.getElem_of_mem hb
    obtain⟨a0,kJ,hf⟩:=l2 j _ (List.getElem?_eq_getElem hj)
    exact((ih _ _ _ (h4 j a0 kJ) hf).2 (h2 a0 (List.mem_of_getElem? kJ))).2) (fun j hj=>h3 j (by rw[<-l1];exact hj)) (fun j b hj=>by
    obtain⟨a0,kJ,hf⟩:=l2 j b hj
    exact((ih _ _ _ (h4 j a0 kJ) hf).2 (h2 a0 (List.mem_of_getElem? kJ))).1)
   exact⟨.eM _ _ hI,fun hc=>by simp[AV.cell]at hc⟩
  |gn cs=>
   rw[gq]at h
   simp only[Option.map_eq_some_iff]at h
   obtain⟨r',nA,rfl⟩:=h
   obtain⟨vs,f,rfl,h1,h3,h4⟩:=tZ hr
   obtain⟨l1,l2⟩:=iH nA
   exact⟨.gn r' vs f (by rw[h1,l1]) (fun j hj=>h3 j (by rw[<-l1];exact hj)) (fun j b hj=>by
    obtain⟨a0,kJ,hf⟩:=l2 j b hj
    exact(ih _ _ _ (h4 j a0 kJ) hf).1),fun hc=>by simp[AV.cell]at hc⟩
  |fn f di=>rw[gq]at h<;>(try simp at h)<;>(try(intros;simp_all))
  |int k m=>rw[gq]at h<;>(try simp at h)<;>(try subst h)<;>(try(rw[dL hr];exact⟨.eM _ _ (.int _ _),fun _=>⟨.int _ _,rfl⟩⟩))<;>(try(intros;simp_all))
  |bool b=>rw[gq]at h<;>(try simp at h)<;>(try subst h)<;>(try(rw[fe hr];exact⟨.eM _ _ (.bool _),fun _=>⟨.bool _,rfl⟩⟩))<;>(try(intros;simp_all))
  |str b=>rw[gq]at h<;>(try simp at h)<;>(try subst h)<;>(try(rw[fI hr];exact⟨.eM _ _ (.str _),fun _=>⟨.str _,rfl⟩⟩))<;>(try(intros;simp_all))
  |bS=>rw[gq]at h<;>(try simp at h)<;>(try subst h)<;>(try(rw[jg hr];exact⟨.eM _ _ .bS,fun _=>⟨.bS,rfl⟩⟩))<;>(try(intros;simp_all))
  |iJ=>rw[gq]at h<;>(try simp at h)<;>(try subst h)<;>(try(rw[vL hr];exact⟨.eM _ _ .iJ,fun _=>⟨.iJ,rfl⟩⟩))<;>(try(intros;simp_all))
  |iT=>rw[gq]at h<;>(try simp at h)<;>(try subst h)<;>(try(rw[B7 hr];exact⟨.eM _ _ .iT,fun _=>⟨.iT,rfl⟩⟩))<;>(try(intros;simp_all))
  |tY f di=>rw[gq]at h<;>(try simp at h)<;>(try(intros;simp_all))
  |gE=>rw[gq]at h<;>(try simp at h)<;>(try subst h)<;>(try(cases hr with|eM _ _ hr=>cases hr;exact both .gE rfl))<;>(try(intros;simp_all))
  |sl rows=>rw[gq]at h<;>(try simp at h)<;>(try(intros;simp_all))
  |dt cs=>rw[gq]at h<;>(try simp at h)<;>(try(intros;simp_all))
end
end Go.Proofs.YtgoljkjaameagaaGreat.V

namespace Go.Proofs.YtgoljkjaameagaaGreat.V
open Go.RowKit
variable {P:Program} {w w':World} {D D':Nat->Prop} {ι ι':Names}
section
variable {g:Rows} {hs:Nat} {env:Env} {a:Act} {o:Oper} {id:Id} {v:AV}
theorem gx.Ho (S:gx P hs D ι g w) {i:Id} {r r':Row} {B:rL} {ob:Obj} (hid:g i=some r) (hw:r.w=true) (hB:ι i=some B)
  (hR:(∀a v,dd P w D ι a v->dd P {w with heap:=w.heap.setIfInBounds B.b ob} D ι a v)->(w.heap.setIfInBounds B.b ob)[B.b]? =some ob->gT P {w with heap:=w.heap.setIfInBounds B.b ob} D ι B r'):
  gx P hs D ι (bD g i r') {w with heap:=w.heap.setIfInBounds B.b ob}/\Step hs D ι w D ι {w with heap:=w.heap.setIfInBounds B.b ob}:=by
 obtain⟨B0,Bf,R,ju,lu⟩:=S.row i r hid
 rw[hB]at Bf;injection Bf with Bf;subst Bf
 have other:∀b,b≠B.b->(w.heap.setIfInBounds B.b ob)[b]? =w.heap[b]? :=fun b hb=>by simp[Ne.symm hb]
 have hd:∀b,D b->(w.heap.setIfInBounds B.b ob)[b]? =w.heap[b]? :=fun b hb=>other b (by rintro rfl;exact lu hw hb)
 have hr:∀a v,dd P w D ι a v->dd P {w with heap:=w.heap.setIfInBounds B.b ob} D ι a v:=fun a v h=>h.frame hd (fun _ h=>h) (fun _ _ h=>h)
 refine⟨⟨by simpa using S.lo,fun b hb=>by simpa using S.dead b hb,fun j q h=>?_,fun j j' q q' C C' h h' IW hC tx he=>?_⟩,⟨⟨rfl,rfl,rfl,by simp,fun k hk=>other k (by have:=ju hw;omega)⟩,hd,fun _ h=>h,fun _ _ h=>h,fun _ h=>.inl h⟩⟩
 ·unfold bD at h
  split at h
  ·rename_i e
   subst e
   injection h with h;subst h
   exact⟨B,hB,hR hr (by simp[R.lt]),fun _=>ju hw,fun _=>lu hw⟩
  ·rename_i e
   obtain⟨C,hC,RC,k1,k2⟩:=S.row j q h
   refine⟨C,hC,RC.frame (other C.b (fun MR=>e ?_)) hr,k1,k2⟩
   exact(S.inj i j r q B C hid h hw hB hC MR.symm).symm
 ·unfold bD at h h'
  have get:∀j p,(if j=i then some r' else g j)=some p->∃p0,g j=some p0/\(p.w=true->p0.w=true):=fun j p hp=>by
   split at hp
   ·rename_i e;subst e;injection hp with hp;subst hp;exact⟨r,hid,fun _=>hw⟩
   ·exact⟨p,hp,fun h=>h⟩
  obtain⟨p,hp,Ql⟩:=get _ _ h
  obtain⟨p',Lu,_⟩:=get _ _ h'
  exact S.inj j j' p p' C C' hp Lu (Ql IW) hC tx he
theorem EX {s:TS} {x y:AV} {u v:Value} (he:fa s x y=some true) (hx:dd P w D ι x u) (hy:dd P w D ι y v):u=v/\∀n,Instr.sameBits n u v=true:=by
 unfold fa at he
 split at he
 ·split at he
  ·rename_i hk
   subst hk
   simp at he;subst he
   rw[dL hx,dL hy]
   exact⟨rfl,fun n=>by cases n<;>simp[Instr.sameBits]⟩
  ·cases he
 ·simp at he;subst he
  rw[fe hx,fe hy]
  exact⟨rfl,fun n=>by cases n<;>simp[Instr.sameBits]⟩
 ·simp at he;subst he
  rw[fI hx,fI hy]
  exact⟨rfl,fun n=>by cases n<;>simp[Instr.sameBits,HV]⟩
 ·cases he
theorem AU {n:Nat}:∀{ts:List TS} {xs ys:List AV} {vs us:List Value},eF ts xs ys=some true->vs.length=xs.length->us.length=ys.length->(∀(j:Nat) (a:AV),xs[j]? =some a->∃u,vs[j]? =some u/\dd P w D ι a u)->(∀(j:Nat) (a:AV),ys[j]? =some a->∃u,us[j]? =some u/\dd P w D ι a u)->
  us.length=vs.length/\(us.zip vs).all (fun p=>Instr.sameBits n p.1 p.2)=true
 |[],[],[],vs,us,_,h1,h2,_,_=>by
  cases vs<;>cases us<;>simp_all
 |[],x::xs,ys,vs,us,h,_,_,_,_=>by simp[eF]at h
 |[],[],y::ys,vs,us,h,_,_,_,_=>by simp[eF]at h
 |t::ts,[],ys,vs,us,h,_,_,_,_=>by simp[eF]at h
 |t::ts,x::xs,[],vs,us,h,_,_,_,_=>by simp[eF]at h
 |t::ts,x::xs,y::ys,[],us,h,h1,_,_,_=>by simp at h1
 |t::ts,x::xs,y::ys,v::vs,[],h,_,h2,_,_=>by simp at h2
 |t::ts,x::xs,y::ys,v::vs,u::us,h,h1,h2,hx,hy=>by
  unfold eF at h
  split at h
  ·rename_i a b ha hb
   simp only[Option.some.injEq,Bool.and_eq_true]at h
   obtain⟨rfl,rfl⟩:=h
   obtain⟨v',nw,rv⟩:=hx 0 x rfl
   obtain⟨u',CE,ru⟩:=hy 0 y rfl
   simp at nw CE;subst nw;subst CE
   obtain⟨e1,e2⟩:=EX ha rv ru
   obtain⟨q1,q2⟩:=AU (n:=n) hb (by simpa using h1) (by simpa using h2) (fun j a hj=>by simpa using hx (j+1) a (by simpa using hj)) (fun j a hj=>by simpa using hy (j+1) a (by simpa using hj))
   refine⟨by simp[q1],?_⟩
   simp only[List.zip_cons_cons,List.all_cons,q2,Bool.and_true]
   rw[<-e1]
   have:=e2 n
   rw[<-e1]at this
   exact this
  ·cases h
theorem BO {m:MK} {key:List AV}:∀{rows:List (List AV)} {i j:Nat},gI m key rows i=some (some j)->∃cs,i<=j/\rows[j-i]? =some cs/\eF m.ts key (cs.take m.ks)=some true
 |[],i,j,h=>by simp[gI]at h
 |cs::rows,i,j,h=>by
  unfold gI at h
  split at h
  ·rename_i hq
   simp at h;subst h
   exact⟨cs,Nat.le_refl _,by simp,hq⟩
  ·obtain⟨c,h1,h2,h3⟩:=BO h
   exact⟨c,ai,by rw[show j-i=(j-(i+1))+1 by omega];simpa using h2,h3⟩
  ·cases h
theorem vm {m:MK} {k:AV} {rows:List (List AV)} {fi:Option Nat} (h:gu m k rows=some fi):k.isAgg=m.ka/\k.cells.length=m.ks/\(k.cells.all AV.cell=true)/\gI m k.cells rows 0=some fi:=by
 unfold gu at h
 split at h
 ·rename_i hc;exact⟨hc.1,hc.2.1,hc.2.2,h⟩
 ·cases h
theorem JC {m:MK} {k y:AV} (h1:k.isAgg=m.ka) (h2:k.cells.length=m.ks):part m.ka m.ks (k.cells++[y])=some k/\(k.cells++[y])[m.ks]? =some y:=by
 refine⟨?_,by rw[List.getElem?_append_right ai,h2,Nat.sub_self];rfl⟩
 cases hk:m.ka with
 |false=>
  rw[hk]at h1
  rw[uA h1];rfl
 |true=>
  rw[hk]at h1
  cases k<;>simp[AV.isAgg]at h1
  rename_i cs
  simp only[AV.cells]at h2 ⊢
  simp only[part,if_true]
  rw[if_pos (by simp;omega),<-h2,List.take_left']
  rfl
theorem stays {k:TypeId} {m:MK} (hK:EK P k m) {key kv:AV} {u yn:Value} {cs:List AV} (h1:key.isAgg=m.ka) (hr:dd P w D ι key u) (hp:part m.ka m.ks cs=some kv) (ho:dd P w D ι kv yn) (he:eF m.ts key.cells (cs.take m.ks)=some true):(Instr.keyThatStays yn u).run P w=.ok u w:=by
 have hs:Instr.sameBits 10000 yn u=true:=by
  rcases hK with⟨s,rfl,hs⟩|⟨fs,ts,rfl,qG,xh,eb,ee⟩
  ·rw[uA h1]at he
   cases cs with
   |nil=>simp[part]at hp
   |cons c l=>
    simp[part]at hp;subst hp
    simp only[MK.ks,List.length_cons,List.length_nil,Nat.zero_add,List.take_succ_cons,List.take_zero,eF]at he
    cases hq:fa s key c with
    |none=>rw[hq]at he;simp at he
    |some b=>
     rw[hq]at he;simp at he;subst he
     obtain⟨e1,e2⟩:=EX hq hr ho
     rw[<-e1]
     have:=e2 10000
     rwa [<-e1]at this
  ·cases key<;>simp[AV.isAgg]at h1
   rename_i ks
   simp only[part,if_true]at hp
   split at hp
   ·simp only[Option.some.injEq]at hp;subst hp
    obtain⟨vs,rfl,n1,r1⟩:=qV hr
    obtain⟨us,rfl,n2,r2⟩:=qV ho
    obtain⟨q1,q2⟩:=AU (n:=9999) (vs:=vs.toList) (us:=us.toList) he (by simpa[AV.cells]using n1) (by simpa using n2) (fun j a hj=>by simpa using r1 j a hj) (fun j a hj=>by simpa using r2 j a hj)
    simp only[Instr.sameBits,Bool.and_eq_true,beq_iff_eq]
    exact⟨by simpa using q1,q2⟩
   ·cases hp
 simp[Instr.keyThatStays,hs]
theorem JY {es:Array MapEntry} {clock:Nat} (h:KL es clock) (k v:Value):KL (es.push ⟨k,v,clock⟩) (clock+1):=by
 refine⟨fun x hx=>?_,?_⟩
 ·simp only[Array.toList_push,List.mem_append,List.mem_singleton]at hx
  rcases hx with hx|rfl
  ·have:=h.1 x hx;omega
  ·exact Nat.lt_succ_self _
 ·simp only[Array.toList_push,List.map_append,List.map_cons,List.map_nil]
  refine List.nodup_append.2 ⟨h.2,by simp,fun a ha b hb=>?_⟩
  obtain⟨x,hx,rfl⟩:=List.mem_map.1 ha
  simp at hb;subst hb
  have:=h.1 x hx;omega
theorem Eu {es:Array MapEntry} {clock:Nat} (h:KL es clock) (j:Nat) (k v:Value):KL (es.modify j fun e=>{e with key:=k,val:=v}) clock:=by
 have e:(es.modify j fun e=>{e with key:=k,val:=v}).toList.map (·.born)=es.toList.map (·.born):=by
  refine List.ext_getElem? fun i=>?_
  simp only[List.getElem?_map,Array.getElem?_toList,Array.getElem?_modify]
  split
  ·cases es[i]? <;>rfl
  ·rfl
 refine⟨fun x hx=>?_,by rw[e];exact h.2⟩
 have hb:x.born∈(es.modify j fun e=>{e with key:=k,val:=v}).toList.map (·.born):=List.mem_map_of_mem hx
 rw[e]at hb
 obtain⟨y,hy,hyb⟩:=List.mem_map.1 hb
 rw[<-hyb];exact h.1 y hy
theorem Hd {es:Array MapEntry} {clock:Nat} (h:KL es clock) {j:Nat} (hj:j<es.size):KL (es.eraseIdxIfInBounds j) clock:=by
 have e:(es.eraseIdxIfInBounds j).toList=es.toList.eraseIdx j:=by
  unfold Array.eraseIdxIfInBounds
  rw[dif_pos hj,Array.toList_eraseIdx]
 refine⟨fun x hx=>h.1 x ((List.eraseIdx_sublist _ _).subset (by rwa [e]at hx)),?_⟩
 rw[e]
 exact((List.eraseIdx_sublist es.toList j).map (·.born)).nodup h.2
theorem A8 {k y:AV} (h1:k.cells.all AV.cell=true) (h2:y.cell=true):∀a∈k.cells++[y],a.cell=true:=fun a ha=>by
 rcases List.mem_append.1 ha with ha|ha
 ·exact List.all_eq_true.1 h1 a ha
 ·rw[List.mem_singleton.1 ha];exact h2
theorem NW {t:TypeId} {x k y:Operand} {m:MK} {z:K} {x' k' y':O} {g':Rows} (S:gx P hs D ι g w) (E:cQ P w D ι env a) (ho:o.op=.mapUpdate t x k y∨o.op=.insert t x k y) (hc:rS P t=some (m,z)) (hx:cO P x=some x') (hk:cO P k=some k') (hy:cO P y=some y')
  (hv:br (.set m) [cZ env x',cZ env k',cZ env y'] g=some g'):CI P hs a o w D ι id .undef g':=by
 obtain⟨kt,e,i,zv,ht,hi,uV,S5,hK⟩:=qu hc
 simp only[br,Option.bind_eq_some_iff]at hv
 obtain⟨p,hp,fi,MU,hv⟩:=hv
 split at hv
 ·rename_i hcond
  obtain⟨hw,hyc,_⟩:=hcond
  simp only[Option.some.injEq]at hv;subst hv
  obtain⟨B,hu,hg,hB,tP,es,clock,hb,fu,hlen,hM⟩:=zu S (dB E hx) hp
  have rk:=dB E hk
  have ry:=dB E hy
  obtain⟨Kv,res,hf,hF⟩:=uI (B:=B) hK rk fu hM MU
  obtain⟨k1,k2,k3,k4⟩:=vm MU
  obtain⟨B',dW,R,_⟩:=S.row p.1 p.2 hg
  rw[hB]at dW;injection dW with dW;subst dW
  obtain⟨pk1,pk2⟩:=JC (y:=cZ env y') k1 k2
  have fq:(getObj B.b).run P w=.ok (.map es clock) w:=MapKept.run_getObj_map hb
  rcases hF with⟨rfl,rfl⟩|⟨j,en,rfl,he,rfl⟩
  ·have nv:=S.Ho (ob:=.map (es.push ⟨a.eval k,a.eval y,clock⟩) (clock+1)) (r':={p.2 with rows:=du p.2.rows ((cZ env k').cells++[cZ env y']) none}) hg hw hB fun hr jY=>⟨R.sz,fun cs dS=>?_,fun r6=>(by rw[tP]at r6;cases r6),fun m' Bm=>?_,fun c hc=>(by rw[tP]at hc;cases hc)⟩
   ·refine⟨undef,_,ι,.inr ⟨?_,rfl⟩,nv.2,nv.1,dd.undef,fun _ _=>rfl⟩
    rcases ho with ho|ho<;>
    ·simp only[execOp,ho,Instr.mapUpdate,hu,Sem.run_bind,run_underlying ht,Result.andThen_ok,fq,Kv,hf,MapKept.run_setObj_map _ hb,Sem.run_pure]
   ·rcases List.mem_append.1 dS with h|h
    ·exact R.flat cs h
    ·rw[List.mem_singleton.1 h];exact A8 k3 hyc
   ·rw[tP]at Bm;simp only[Option.some.injEq,BK.map.injEq]at Bm;subst Bm
    refine⟨(R.map m tP).1,_,_,jY,by simp[du,fu],⟨fun cs dS=>?_,JY hlen.2 _ _⟩,fun q cs hq=>?_⟩
    ·rcases List.mem_append.1 dS with h|h
     ·exact hlen.1 cs h
     ·rw[List.mem_singleton.1 h];simp[k2]
    ·rcases Nat.lt_or_ge q p.2.rows.length with eh|pY
     ·simp only[du]at hq
      rw[List.getElem?_append_left eh]at hq
      obtain⟨en,kv,vv,q1,q2,q3,q4,q5⟩:=hM q cs hq
      exact⟨en,kv,vv,by rw[Array.getElem?_push_lt ai];rw[Array.getElem?_eq_getElem ai]at q1;simpa using q1,q2,q3,hr _ _ q4,hr _ _ q5⟩
     ·simp only[du]at hq
      rw[List.getElem?_append_right pY]at hq
      have KB:q=p.2.rows.length:=by
       have:=(List.getElem?_eq_some_iff.1 hq).1
       simp at this;omega
      subst KB
      simp at hq;subst hq
      exact⟨⟨a.eval k,a.eval y,clock⟩,_,_,by rw[<-fu];simp,pk1,pk2,hr _ _ rk,hr _ _ ry⟩
  ·simp only[Nat.zero_add]at k4 MU hf ⊢
   obtain⟨MI,_,Lf,heq⟩:=BO k4
   simp only[Nat.sub_zero]at Lf
   obtain⟨QL,kv,vv,q1,q2,_,q4,_⟩:=hM j MI Lf
   have Hv:QL=en:=by
    have h1:es.toList[j]? =some QL:=by simpa using q1
    rw[he]at h1;injection h1 with h1;exact h1.symm
   subst Hv
   have eb:=stays (w:=w) hK k1 rk q2 q4 heq
   have nv:=S.Ho (ob:=.map (es.modify j fun e=>{e with key:=a.eval k,val:=a.eval y}) clock) (r':={p.2 with rows:=du p.2.rows ((cZ env k').cells++[cZ env y']) (some j)}) hg hw hB fun hr jY=>⟨R.sz,fun cs dS=>?_,fun r6=>(by rw[tP]at r6;cases r6),fun m' Bm=>?_,fun c hc=>(by rw[tP]at hc;cases hc)⟩
   ·refine⟨undef,_,ι,.inr ⟨?_,rfl⟩,nv.2,nv.1,dd.undef,fun _ _=>rfl⟩
    rcases ho with ho|ho<;>
    ·simp only[execOp,ho,Instr.mapUpdate,hu,Sem.run_bind,run_underlying ht,Result.andThen_ok,fq,Kv,hf,q1,Option.map_some,Option.getD_some,eb,MapKept.run_setObj_map _ hb,Sem.run_pure]
   ·rcases List.mem_or_eq_of_mem_set dS with h|h
    ·exact R.flat cs h
    ·rw[h];exact A8 k3 hyc
   ·rw[tP]at Bm;simp only[Option.some.injEq,BK.map.injEq]at Bm;subst Bm
    have gZ:=(List.getElem?_eq_some_iff.1 Lf).1
    refine⟨(R.map m tP).1,_,_,jY,by simp[du,fu],⟨fun cs dS=>?_,Eu hlen.2 _ _ _⟩,fun q cs hq=>?_⟩
    ·rcases List.mem_or_eq_of_mem_set dS with h|h
     ·exact hlen.1 cs h
     ·rw[h];simp[k2]
    ·simp only[du,List.getElem?_set]at hq
     split at hq
     ·rename_i Qe
      subst Qe
      (try rw[if_pos gZ]at hq)
      injection hq with hq;subst hq
      exact⟨{QL with key:=a.eval k,val:=a.eval y},_,_,by rw[Array.getElem?_modify];simp[q1],pk1,pk2,hr _ _ rk,hr _ _ ry⟩
     ·rename_i Qe
      obtain⟨en,kv,vv,q1,q2,q3,q4,q5⟩:=hM q cs hq
      exact⟨en,kv,vv,by rw[Array.getElem?_modify];simp[Qe,q1],q2,q3,hr _ _ q4,hr _ _ q5⟩
 ·cases hv
theorem NV {t t':TypeId} {x k:Operand} {m:MK} {z:K} {x' k':O} {g':Rows} (S:gx P hs D ι g w) (E:cQ P w D ι env a) (ho:o.op=.call {callee:=.builtin .delete,args:= #[x,k],argTypes:= #[t,t']}) (hc:rS P t=some (m,z)) (hx:cO P x=some x') (hk:cO P k=some k')
  (hv:br (.del m) [cZ env x',cZ env k'] g=some g'):CI P hs a o w D ι id .undef g':=by
 obtain⟨kt,e,i,zv,ht,hi,uV,S5,hK⟩:=qu hc
 simp only[br,Option.bind_eq_some_iff]at hv
 obtain⟨p,hp,fi,MU,hv⟩:=hv
 split at hv
 ·rename_i hw
  simp only[Option.some.injEq]at hv;subst hv
  obtain⟨B,hu,hg,hB,tP,es,clock,hb,fu,hlen,hM⟩:=zu S (dB E hx) hp
  have rk:=dB E hk
  obtain⟨Kv,res,hf,hF⟩:=uI (B:=B) hK rk fu hM MU
  obtain⟨k1,k2,k3,k4⟩:=vm MU
  obtain⟨B',dW,R,_⟩:=S.row p.1 p.2 hg
  rw[hB]at dW;injection dW with dW;subst dW
  have fq:(getObj B.b).run P w=.ok (.map es clock) w:=MapKept.run_getObj_map hb
  have go:∀ob,(Builtin.delete_ #[t,t'] o.type #[a.eval x,a.eval k]).run P w=.ok (.tuple #[]) {w with heap:=w.heap.setIfInBounds B.b ob}->(execOp a.eval o).run P w=.ok (.value undef) {w with heap:=w.heap.setIfInBounds B.b ob}:=fun ob h=>by
   simp only[execOp,ho,resolve,Sem.run_bind,Sem.run_pure,Result.andThen_ok,invoke,builtin,Array.map]
   simp[h,undef]
  rcases hF with⟨rfl,rfl⟩|⟨j,en,rfl,he,rfl⟩
  ·have nv:=S.Ho (ob:=.map es clock) (r':={p.2 with rows:=dz p.2.rows none}) hg hw hB fun hr jY=>⟨R.sz,R.flat,fun r6=>(by rw[tP]at r6;cases r6),fun m' Bm=>?_,fun c hc=>(by rw[tP]at hc;cases hc)⟩
   ·refine⟨undef,_,ι,.inl (go _ ?_),nv.2,nv.1,dd.undef,fun _ _=>rfl⟩
    simp[Builtin.delete_,hu,run_underlying ht,fq,Kv,hf,MapKept.run_setObj_map _ hb]
   ·rw[tP]at Bm;simp only[Option.some.injEq,BK.map.injEq]at Bm;subst Bm
    exact⟨(R.map m tP).1,_,_,jY,fu,hlen,fun q cs hq=>by
     obtain⟨en,kv,vv,q1,q2,q3,q4,q5⟩:=hM q cs hq
     exact⟨en,kv,vv,q1,q2,q3,hr _ _ q4,hr _ _ q5⟩⟩
  ·simp only[Nat.zero_add]at hf ⊢
   have gZ:j<es.size:=by have:=(List.getElem?_eq_some_iff.1 he).1;simpa using this
   have nv:=S.Ho (ob:=.map (es.eraseIdxIfInBounds j) clock) (r':={p.2 with rows:=dz p.2.rows (some j)}) hg hw hB fun hr jY=>⟨R.sz,fun cs dS=>R.flat cs (List.mem_of_mem_eraseIdx dS),fun r6=>(by rw[tP]at r6;cases r6),fun m' Bm=>?_,fun c hc=>(by rw[tP]at hc;cases hc)⟩
   ·refine⟨undef,_,ι,.inl (go _ ?_),nv.2,nv.1,dd.undef,fun _ _=>rfl⟩
    simp[Builtin.delete_,hu,run_underlying ht,fq,Kv,hf,MapKept.run_setObj_map _ hb]
   ·rw[tP]at Bm;simp only[Option.some.injEq,BK.map.injEq]at Bm;subst Bm
    have he2:∀q,(es.eraseIdxIfInBounds j)[q]? =(es.toList.eraseIdx j)[q]? :=fun q=>by
     unfold Array.eraseIdxIfInBounds
     rw[dif_pos gZ,<-Array.getElem?_toList,Array.toList_eraseIdx]
    refine⟨(R.map m tP).1,_,_,jY,by simp[dz,Array.eraseIdxIfInBounds,gZ,List.length_eraseIdx,<-fu],⟨fun cs dS=>hlen.1 cs (List.mem_of_mem_eraseIdx dS),Hd hlen.2 gZ⟩,fun q cs hq=>?_⟩
    simp only[dz,List.getElem?_eraseIdx]at hq
    split at hq
    ·rename_i eh
     obtain⟨en,kv,vv,q1,q2,q3,q4,q5⟩:=hM q cs hq
     exact⟨en,kv,vv,by rw[he2,List.getElem?_eraseIdx,if_pos eh];simpa using q1,q2,q3,hr _ _ q4,hr _ _ q5⟩
    ·rename_i eh
     obtain⟨en,kv,vv,q1,q2,q3,q4,q5⟩:=hM (q+1) cs hq
     exact⟨en,kv,vv,by rw[he2,List.getElem?_eraseIdx,if_neg eh];simpa using q1,q2,q3,hr _ _ q4,hr _ _ q5⟩
 ·cases hv
end
end Go.Proofs.YtgoljkjaameagaaGreat.V
