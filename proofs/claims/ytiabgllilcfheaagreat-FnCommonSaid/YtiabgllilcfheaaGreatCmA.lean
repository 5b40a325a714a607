/- A small language in which the program's functions are read by value: its values, its operations, its code, and how the program's code is brought into it. -/
import Derived.WalkKit
import Derived.WalkSpells
import Derived.WalkLawsBesides
import Derived.Lib.Hide
import Derived.Great.BuildSlice
import Derived.Conc.LoneCalls
import Derived.MapKept
import Derived.WideKeyRuns
set_option linter.unusedVariables false
set_option linter.unusedSimpArgs false
set_option maxRecDepth 100000
set_option maxHeartbeats 16000000
namespace Go.Proofs.YtiabgllilcfheaaGreat.V
open Go.RowKit
structure Id where
  site:Nat
  bt:Nat
  deriving DecidableEq,Repr
inductive TS where
  |tI|tB|tS
  deriving Repr,DecidableEq
structure MK where
  ka:Bool
  ts:List TS
  deriving Repr,DecidableEq
inductive AV where
  |int (k:IntKind) (n:Int)
  |bool (b:Bool)
  |str (s:ByteArray)
  |ck|iZ|jS
  |sl (rows:List (List AV))
  |own (id:Id) (off len:Nat)
  |ptr (id:Id) (i off:Nat)
  |dv (cs:List AV)
  |agg (cs:List AV)
  |ib (vs:List AV)
  |fn (f:Nat) (dG:List AV)
  |map (id:Id) (m:MK)
  |j6
  |wR (f:Nat) (first:List AV)
  |tQ (id:Id)
  deriving Inhabited
def AV.undef:AV:=.ib []
def AV.cell:AV->Bool
  | .agg _| .ib _=>false
  |_=>true
def AV.cells:AV->List AV
  | .agg cs=>cs
  |v=>[v]
inductive K where
  |int (k:IntKind) (n:Int)
  |bool (b:Bool)
  |str (l:List UInt8)
  |ck|iZ|jS|j6
  deriving Repr,DecidableEq
def K.val:K->Value
  | .int k n=>.int k n
  | .bool b=>.bool b
  | .str l=>.string ⟨l.toArray⟩
  | .ck=>.slice none 0 0
  | .iZ=>.pointer none
  | .jS=>.nilFunc
  | .j6=>.map none
def K.av:K->AV
  | .int k n=>.int k n
  | .bool b=>.bool b
  | .str l=>.str ⟨l.toArray⟩
  | .ck=>.ck
  | .iZ=>.iZ
  | .jS=>.jS
  | .j6=>.j6
def Jn:Value->Option K
  | .int k n=>some (.int k n)
  | .bool b=>some (.bool b)
  | .string s=>some (.str s.data.toList)
  | .slice none 0 0=>some .ck
  | .pointer none=>some .iZ
  | .nilFunc=>some .jS
  | .map none=>some .j6
  |_=>none
inductive O where
  |t (n:Nat)
  |k (c:K)
  |ka (cs:List K)
  |f (n:Nat)
  deriving Repr,DecidableEq
inductive MQ where
  |new (m:MK)
  |look (m:MK) (ok:Bool) (zero:K)
  |len (m:MK)
  deriving Repr,DecidableEq
inductive MW where
  |set (m:MK)
  |del (m:MK)
  deriving Repr,DecidableEq
inductive iH where
  |dF (x:O)
  |pick (c a b:O)
  |new (zero:List K)
  |box (x:O)
  |build (zero:List K) (parts:List (Nat×Nat×O))
  |fZ (sz len:Nat) (parts:List O)
  |load (agg:Bool) (n:Nat) (a:O)
  |store (n:Nat) (a x:O)
  |C2 (x:O)
  |bin (op:BinOp) (k:IntKind) (x y:O)
  |sh (left:Bool) (x y:O)
  |yn (op:BinOp) (x y:O)
  |Nu (neg:Bool) (t:TS) (x y:O)
  |WW (neg:Bool) (ts:List TS) (x y:O)
  |Vc (neg OZ:Bool) (x:O)
  |WX (neg:Bool) (x:O)
  |not (x:O)
  |neg (x:O)
  |conv (k:IntKind) (x:O)
  |Hr (x:O)
  |slice (sz:Nat) (x:O) (lo hi:Option O)
  |CN (x:O) (lo hi:Option O)
  |eA (off:Nat) (x:O)
  |field (agg:Bool) (off n:Nat) (x:O)
  |gz (sz:Nat) (x i:O)
  |OR (len sz:Nat) (x i:O)
  |OU (x i:O)
  |eO (agg:Bool) (len n:Nat) (x i:O)
  |extract (i:Nat) (x:O)
  |len (x:O)
  |O4 (x:O)
  |append (sz:Nat) (x y:O)
  |copy (sz:Nat) (x y:O)
  |clear (zero:List K) (x:O)
  |O7 (f:Nat) (dG:List O)
  |O8 (f:Nat) (first:List O)
  |nf (zero:List K) (len cap:O)
  |call (f:Nat) (args:List O)
  |wu (x:O) (args:List O)
  |mq (q:MQ) (xs:List O)
  |mw (q:MW) (xs:List O)
  |L8 (x:O)
  |LY (x:O)
  |snd (x y:O)
  |Sq (x:O)
  |bad
  deriving Repr,DecidableEq
structure bc where
  dst:Option Nat
  op:iH
  guard:Option (Nat×Bool)
  site:Nat
  hid:List Nat
  deriving Repr,DecidableEq
def q (d:Nat) (op:iH) (s:Nat):bc:=⟨some d,op,none,s,[]⟩
inductive VC where
  |skip
  |fo (draw:Bool) (ops:List bc)
  |seq (a b:VC)
  |cond (c:O) (x y:VC)
  |block (id:Nat) (c:VC)
  |loop (c:VC)
  |exit (id:Nat)
  |ret
  |one (o:bc) (c:VC)
  |both (a b:VC)
  |loc (t s:Nat) (y:O) (c:VC)
  |Q5 (ops:List bc)
  deriving Repr,DecidableEq
inductive pB where
  |tmp (t:Nat)
  |cell (agg:Bool) (n:Nat) (t:Nat)
  deriving Repr,DecidableEq
structure FC where
  ntmps:Nat
  Bc:Nat
  body:VC
  res:List pB
  deriving Repr,DecidableEq
def gT (P:Program) (f:Nat):Bool:=
  match P.funcs[f]? with
  |some fn=>fn.body.isSome&& !(fn.name== "runtime.NumGoroutine")
  |none=>false
def cO (P:Program):Operand->Option O
  | .tmp t=>some (.t t)
  | .const (.agg cs)=>(cs.toList.mapM Jn).map O.ka
  | .const v=>(Jn v).map O.k
  | .global _=>none
  | .func f=>if gT P f then some (.f f)else none
def kz (P:Program) (t:TypeId):Option (List K):=
  match P.info? t with
  |some i=>match i.zero with
    |some v=>if v.cells.size=i.size then v.cells.toList.mapM Jn else none
    |none=>none
  |none=>none
def eX (P:Program) (t:TypeId):Option Nat:=(P.info? t).map (·.size)
def pH (P:Program) (t:TypeId):Option Bool:=
  match P.underlying t with
  |some (.struct _)|some (.array _ _)=>some true
  |some _=>some false
  |none=>none
inductive X3 where
  |sc (t:TS)|ag (ts:List TS)
  deriving Repr,DecidableEq
def gC (P:Program) (t:TypeId):Option TS:=
  match P.underlying t with
  |some .bool=>some .tB
  |some (.int _)=>some .tI
  |some .string=>some .tS
  |_=>none
def FW (P:Program) (inner:List Field->Option (List TS)):Nat->List Field->Option (List TS)
  |_,[]=>some []
  |off,f::r=>
    if f.offset=off/\f.name≠ "_" then
      match gC P f.type with
      |some t=>if pH P f.type=some false then(FW P inner (off+1) r).map (t::·)else none
      |none=>match P.underlying f.type with
        |some (.struct fs)=>if !P.stoodInHeld f.type then match inner fs.toList with
          |some ts=>if eX P f.type=some ts.length/\ts≠[]then(FW P inner (off+ts.length) r).map (ts++·)else none
          |none=>none else none
        |_=>none
    else none
def fq (P:Program):Nat->Nat->List Field->Option (List TS)
  |0,_,[]=>some []
  |0,_,_::_=>none
  |d+1,off,fs=>FW P (fq P d 0) off fs
def Yl (P:Program) (t:TypeId):Option X3:=
  match gC P t with
  |some s=>some (.sc s)
  |none=>match P.underlying t with
    |some (.struct fs)=>if !P.stoodInHeld t&& !P.eqGuardType P.depth t then(fq P 4 0 fs.toList).map X3.ag else none
    |_=>none
def uY (P:Program) (fs:Array Field):List (Nat×O)->Option (List (Nat×Nat×O))
  |[]=>some []
  |(i,x)::r=>match fs[i]? with
    |some f=>match eX P f.type with
      |some n=>(uY P fs r).map ((f.offset,n,x)::·)
      |none=>none
    |none=>none
def vd (P:Program) (ps:Array (Nat×Operand)):Option (List (Nat×O)):=ps.toList.mapM fun(i,x)=>(cO P x).map (i,·)
def tO (P:Program):Option Operand->Option (Option O)
  |none=>some none
  |some x=>(cO P x).map some
def uZ (P:Program) (neg:Bool) (t:TypeId) (x y:Operand):Option iH:=
  match y with
  | .const (.slice none 0 0)=>match P.underlying t with
    |some (.slice _)=>(cO P x).map (iH.Vc neg false)
    |_=>none
  | .const .nilFunc=>match P.underlying t with
    |some (.func ..)=>(cO P x).map (iH.Vc neg true)
    |_=>none
  | .const (.pointer none)=>match P.underlying t with
    |some (.pointer _)=>(cO P x).map (iH.WX neg)
    |_=>none
  |_=>match Yl P t with
    |some (.sc s)=>do pure (.Nu neg s (<-cO P x) (<-cO P y))
    |some (.ag ts)=>do pure (.WW neg ts (<-cO P x) (<-cO P y))
    |_=>none
def yg (P:Program) (op:BinOp) (t:TypeId) (x y:Operand):Option iH:=
  match op with
  | .eql=>uZ P false t x y
  | .neq=>uZ P true t x y
  | .shl=>do pure (.sh true (<-cO P x) (<-cO P y))
  | .shr=>do pure (.sh false (<-cO P x) (<-cO P y))
  |op=>match P.underlying t with
    |some (.int k)=>do pure (.bin op k (<-cO P x) (<-cO P y))
    |some .string=>do pure (.yn op (<-cO P x) (<-cO P y))
    |_=>none
def u9 (P:Program) (t:TypeId):Option (MK×K):=
  match P.underlying t with
  |some (.map k e)=>match pH P e,(P.info? e).bind (·.zero),gC P k,P.underlying k with
    |some false,some zv,some s,_=>(Jn zv).map fun z=>(⟨false,[s]⟩,z)
    |some false,some zv,none,some (.struct fs)=>match fq P 4 0 fs.toList,Jn zv with
      |some ts,some z=>if !P.stoodInHeld k/\fs.toList.all (fun f=>(gC P f.type).isSome)then some (⟨true,ts⟩,z)else none
      |_,_=>none
    |_,_,_,_=>none
  |_=>none
def pg (P:Program) (c:Call):Option iH:=
  match c.callee with
  | .builtin .len=>match c.args.toList,c.argTypes.toList with
    |[x],[t]=>match P.underlying t with
      |some (.slice _)=>(cO P x).map iH.len
      |some .string=>(cO P x).map iH.O4
      |some (.map _ _)=>match u9 P t,cO P x with
        |some (m,_),some x=>some (.mq (.len m) [x])
        |_,_=>none
      |some (.chan _ _)=>(cO P x).map iH.LY
      |_=>none
    |_,_=>none
  | .builtin .append=>match c.args.toList,c.argTypes.toList with
    |[x,y],[t,u]=>match P.underlying t with
      |some (.slice e)=>match eX P e,kz P e,P.info? e with
        |some (sz+1),some _,some i=>if i.bytes<=32768/\t=u then do pure (.append (sz+1) (<-cO P x) (<-cO P y))else none
        |_,_,_=>none
      |_=>none
    |_,_=>none
  | .builtin .clear=>match c.args.toList,c.argTypes.toList with
    |[x],[t]=>match P.underlying t with
      |some (.slice e)=>match eX P e,kz P e with
        |some (_+1),some z=>(cO P x).map (iH.clear z)
        |_,_=>none
      |_=>none
    |_,_=>none
  | .value (.func f)=>if gT P f then(c.args.toList.mapM (cO P)).map (iH.call f)else none
  | .value (.tmp t)=>(c.args.toList.mapM (cO P)).map (iH.wu (.t t))
  | .builtin .delete=>match c.args.toList,c.argTypes.toList with
    |[x,k],[t,_]=>match u9 P t,cO P x,cO P k with
      |some (m,_),some x,some k=>some (.mw (.del m) [x,k])
      |_,_,_=>none
    |_,_=>none
  | .builtin .copy=>match c.args.toList,c.argTypes.toList with
    |[x,y],[t,_]=>match P.underlying t with
      |some (.slice e)=>match eX P e with
        |some (sz+1)=>do pure (.copy (sz+1) (<-cO P x) (<-cO P y))
        |_=>none
      |_=>none
    |_,_=>none
  |_=>none
def tx (P:Program) (o:Op):Option iH:=
  match o with
  | .move x| .assign x=>(cO P x).map iH.dF
  | .pick c a b=>do pure (.pick (<-cO P c) (<-cO P a) (<-cO P b))
  | .alloc e=>(kz P e).map iH.new
  | .box _ x=>(cO P x).map iH.box
  | .load t a=>do pure (.load (<-pH P t) (<-eX P t) (<-cO P a))
  | .store t a x=>do pure (.store (<-eX P t) (<-cO P a) (<-cO P x))
  | .nilCheck x=>(cO P x).map iH.C2
  | .binOp op t x y _=>yg P op t x y
  | .unOp .not _ x=>(cO P x).map iH.not
  | .unOp .neg _ x=>(cO P x).map iH.neg
  | .convert s d x=>match P.underlying s,P.underlying d with
    |some (.int _),some (.int k)=>(cO P x).map (iH.conv k)
    |some .string,some .string=>(cO P x).map iH.Hr
    |_,_=>none
  | .slice t x lo hi none=>match P.underlying t with
    |some (.slice e)=>do
      pure (.slice (<-eX P e) (<-cO P x) (<-tO P lo) (<-tO P hi))
    |some .string=>do pure (.CN (<-cO P x) (<-tO P lo) (<-tO P hi))
    |_=>none
  | .fieldAddr s x i=>match P.underlying s with
    |some (.struct fs)=>match fs[i]? with
      |some f=>match eX P f.type with
        |some (_+1)=>(cO P x).map (iH.eA f.offset)
        |_=>none
      |none=>none
    |_=>none
  | .field s x i=>match P.underlying s with
    |some (.struct fs)=>match fs[i]? with
      |some f=>do pure (.field (<-pH P f.type) f.offset (<-eX P f.type) (<-cO P x))
      |none=>none
    |_=>none
  | .indexAddr t x i=>match P.underlying t with
    |some (.slice e)=>match eX P e with
      |some (m+1)=>do pure (.gz (m+1) (<-cO P x) (<-cO P i))
      |_=>none
    |some (.array len e)=>match eX P e with
      |some (m+1)=>do pure (.OR len (m+1) (<-cO P x) (<-cO P i))
      |_=>none
    |_=>none
  | .index t x i=>match P.underlying t with
    |some .string=>do pure (.OU (<-cO P x) (<-cO P i))
    |some (.array len e)=>do pure (.eO (<-pH P e) len (<-eX P e) (<-cO P x) (<-cO P i))
    |_=>none
  | .extract x i=>(cO P x).map (iH.extract i)
  | .build t ps=>match P.underlying t with
    |some (.struct fs)=>
      match kz P t,vd P ps with
      |some z,some l=>
        if fs.all (fun f=>(P.info? f.type).isSome)then(uY P fs l).map (iH.build z)else none
      |_,_=>none
    |some (.array _ e)=>
      match kz P t,vd P ps,eX P e with
      |some z,some l,some n=>some (.build z (l.map fun(i,x)=>(i*n,n,x)))
      |_,_,_=>none
    |_=>none
  | .buildSlice t len ps=>match P.underlying t with
    |some (.slice e)=>match eX P e,kz P e,vd P ps with
      |some (sz+1),some _,some l=>
        if len*(sz+1)<=4096/\l.map (·.1)=List.range len then some (.fZ (sz+1) len (l.map (·.2)))else none
      |_,_,_=>none
    |_=>none
  | .makeFunc (.func f) first dG=>
    if first= #[]/\gT P f then(dG.toList.mapM (cO P)).map (iH.O7 f)else if dG= #[]/\gT P f then(first.toList.mapM (cO P)).map (iH.O8 f)else none
  | .makeSlice t l c=>match P.underlying t with
    |some (.slice e)=>match eX P e,kz P e,P.info? e with
      |some (_+1),some z,some i=>if i.bytes<=32768 then do pure (.nf z (<-cO P l) (<-cO P c))else none
      |_,_,_=>none
    |_=>none
  | .call c=>pg P c
  | .makeChan t n=>match P.underlying t with
    |some (.chan _ e)=>match P.info? e with
      |some i=>if i.bytes<=32768 then(cO P n).map iH.L8 else none
      |none=>none
    |_=>none
  | .send x y=>do pure (.snd (<-cO P x) (<-cO P y))
  | .recv t x false=>match P.underlying t with
    |some (.chan _ e)=>match (P.info? e).bind (·.zero)with
      |some _=>(cO P x).map iH.Sq
      |none=>none
    |_=>none
  | .makeMap t none=>match u9 P t with
    |some (m,_)=>some (.mq (.new m) [])
    |none=>none
  | .lookup t x k ok=>match u9 P t,cO P x,cO P k with
    |some (m,z),some x,some k=>some (.mq (.look m ok z) [x,k])
    |_,_,_=>none
  | .mapUpdate t x k v| .insert t x k v=>match u9 P t,cO P x,cO P k,cO P v with
    |some (m,_),some x,some k,some v=>some (.mw (.set m) [x,k,v])
    |_,_,_,_=>none
  | .makeInterface _ _=>some .bad
  | .panic _=>some .bad
  |_=>none
inductive X1 where
  |pure|look|make|write
  deriving DecidableEq,Repr
def iH.cls:iH->X1
  | .new _| .box _| .fZ .. | .nf .. | .mq (.new _) _| .L8 _=>.make
  | .load .. | .gz .. | .slice .. | .call .. | .wu .. | .mq .. | .LY _=>.look
  | .store .. | .append .. | .copy .. | .clear .. | .mw .. | .snd .. | .Sq _=>.write
  |_=>.pure
def clash:X1->X1->Bool
  | .pure,_|_,.pure=>false
  | .write,_|_,.write=>true
  |_,_=>false
def kn (ops:Array Oper):Array Nat:=Region.before ops
def td:iH->Bool:=fun o=>o.cls==.make||o.cls==.write
def iH.nw:iH->Bool
  | .call .. | .wu .. =>true
  |_=>false
def FL (ops:Array Oper) (o:Oper):Option (Option (Nat×Bool)):=
  match o.guard with
  |none=>some none
  |some (i,b)=>match (ops[i]?).bind (·.dst)with
    |some t=>some (some (t,b))
    |none=>none
def lU (P:Program) (ops:Array Oper) (nt site0:Nat) (draw mk:Bool) (bs:Array Nat) (hidden:List (Nat×Bool)) (j:Nat) (o:Oper):Option bc:=do
  let v <-tx P o.op
  let g <-FL ops o
  if (o.dst.all fun d=>decide (d<nt))then
    pure {dst:=o.dst,op:=v,guard:=g,site:=site0+j,hid:=if draw then(hidden.filter fun(i,m)=>m&& !(bs.getD j 0).testBit i&&(i !=j||mk&&v.nw)).map fun(i,_)=>site0+i else[]}
  else none
def allM {α:Type} (f:Nat->Oper->Option α):List Oper->Nat->Option (List α)
  |[],_=>some []
  |o::r,j=>do pure ((<-f j o)::(<-allM f r (j+1)))
def ja:O->List Nat
  | .t n=>[n]
  |_=>[]
def y9:Option O->List Nat
  |some x=>ja x
  |none=>[]
def iH.iM:iH->List Nat
  | .clear _ x| .dF x| .box x| .load _ _ x| .C2 x| .Vc _ _ x| .WX _ x| .not x| .neg x| .conv _ x| .Hr x| .eA _ x| .field _ _ _ x| .extract _ x| .len x| .O4 x| .L8 x| .LY x| .Sq x=>ja x
  | .pick c a b=>ja c++ja a++ja b
  | .new _| .bad=>[]
  | .build _ ps=>ps.flatMap fun(_,_,x)=>ja x
  | .fZ _ _ ps=>ps.flatMap ja
  | .store _ a x| .snd a x=>ja a++ja x
  | .bin _ _ x y| .sh _ x y| .yn _ x y| .Nu _ _ x y| .WW _ _ x y| .gz _ x y| .OR _ _ x y| .OU x y| .eO _ _ _ x y| .append _ x y| .copy _ x y| .nf _ x y=>ja x++ja y
  | .slice _ x lo hi| .CN x lo hi=>ja x++y9 lo++y9 hi
  | .O7 _ l| .O8 _ l| .call _ l| .mq _ l| .mw _ l=>l.flatMap ja
  | .wu x l=>ja x++l.flatMap ja
def bc.iM (v:bc):List Nat:=v.op.iM++(match v.guard with|some (t,_)=>[t]|none=>[])
def we (x y:bc):Bool:=
  (match x.dst with
   |some d=> !y.iM.contains d&&y.dst !=some d
   |none=>true)&&
  (match y.dst with
   |some d=> !x.iM.contains d
   |none=>true)
def bc.makes (v:bc):Bool:=td v.op||v.op.nw&&v.hid.contains v.site
def Hz (x y:bc):Bool:=
  we x y&& !clash x.op.cls y.op.cls&&(!x.makes||y.hid.contains x.site)&&(!y.makes||x.hid.contains y.site)&&x.site !=y.site
def Hs (ops:Array Oper):Bool:=ops.toList.zipIdx.all fun(o,j)=>o.after.all fun e=> !Region.binds .any e||decide (e.on<j)
def qm (ops:Array Oper) (vl:List bc) (bs:Array Nat):Bool:=
  Hs ops&&vl.zipIdx.all fun(y,j)=>vl.zipIdx.all fun(x,i)=> !(decide (i<j))||(bs.getD j 0).testBit i||Hz x y
def tP (P:Program) (nt site0:Nat) (ops:Array Oper) (draw mk:Bool):Option (List bc):=
  let bs:=if draw then kn ops else #[]
  let hidden:=if draw then ops.toList.zipIdx.map fun(o,i)=>(i,((tx P o.op).map fun v=>td v||mk&&v.nw).getD false)else[]
  match allM (lU P ops nt site0 draw mk bs hidden) ops.toList 0 with
  |some vl=>if !draw||qm ops vl bs then some vl else none
  |none=>none
def mb (v:bc):Bool:= !v.op.nw&&v.op.cls !=.write
def AF (x y:bc):Bool:=we x y&&x.op.cls==.pure||Hz x y&&mb x&&mb y
def sR (ops:Array Oper) (vl:List bc) (bs:Array Nat) (listed:Array Bool) (i:Nat):Bool:=
  match vl[i]? with
  |some x=>(List.range ops.size).all fun j=>listed.getD j false||j==i||(bs.getD j 0).testBit i||(match vl[j]? with|some y=>AF x y|none=>false)
  |none=>false
def Qy (vl:List bc) (x:bc):Option (Nat×Nat×O):=
  match x.op,x.guard with
  | .append _ (.t t) y,none=>match vl.find? fun v=>v.dst==some t&&v.op.cls==.make with
    |some v=>some (t,v.site,y)
    |none=>none
  |_,_=>none
def Hy (s:Nat) (x y:bc):Bool:=we x y&&mb y&&y.hid.contains s&&y.hid.contains x.site&&y.site !=s&&y.site !=x.site
def qp (ops:Array Oper) (vl:List bc) (bs:Array Nat) (listed:Array Bool) (i s:Nat):Bool:=
  match vl[i]? with
  |some x=>(List.range ops.size).all fun j=>listed.getD j false||j==i||(bs.getD j 0).testBit i||(match vl[j]? with|some y=>Hy s x y|none=>false)
  |none=>false
def Se (ops:Array Oper) (vl:List bc) (bs:Array Nat) (listed:Array Bool) (i:Nat):Option (Nat×Nat×Nat×O×bc):=
  match vl[i]? with
  |some x=>match Qy vl x with
    |some (t,s,y)=>if qp ops vl bs listed i s then some (i,t,s,y,x)else none
    |none=>none
  |none=>none
def Dt:List VC->Option VC
  |[]=>none
  |[c]=>some c
  |c::r=>(Dt r).map (VC.both c)
def zF (ops:Array Oper) (vl:List bc) (bs:Array Nat):Nat->Array Bool->Option VC
  |0,listed=>
    match Region.ready .any ops listed with
    |[]=>some (.fo false [])
    |_::_=>none
  |n+1,listed=>
    match Region.ready .any ops listed with
    |[]=>some (.fo false [])
    |r::rs=>let rdy:=r::rs
      match rdy.find? (sR ops vl bs listed)with
      |some i=>match vl[i]? with
        |some vo=>(zF ops vl bs n (listed.setIfInBounds i true)).map (VC.one vo)
        |none=>none
      |none=>match rdy.findSome? (Se ops vl bs listed)with
        |some (i,t,s,y,vo)=>(zF ops vl bs n (listed.setIfInBounds i true)).map fun c=>VC.loc t s y (.one vo c)
        |none=>match rdy.mapM fun i=>(vl[i]?).bind fun vo=>(zF ops vl bs n (listed.setIfInBounds i true)).map (VC.one vo)with
          |some l=>Dt l
          |none=>none
def Qw:Op->Bool
  | .send .. | .recv .. =>true
  |_=>false
def UZ (P:Program) (nt site0:Nat) (ops:Array Oper) (draw:Bool) (mode:Nat):Option VC:=
  if draw&&mode==2 then
    match allM (lU P ops nt site0 true false (kn ops) (ops.toList.zipIdx.map fun(o,i)=>(i,((tx P o.op).map td).getD false))) ops.toList 0 with
    |some vl=>zF ops vl (kn ops) ops.size (Array.replicate ops.size false)
    |none=>none
  else if !draw&&ops.any (fun o=>Qw o.op)then(tP P nt site0 ops false false).map VC.Q5
  else(tP P nt site0 ops draw (mode==1)).map (VC.fo draw)
def yY (md:List (Nat×Nat)) (id:Nat):Nat:=
  match md with
  |[]=>0
  |(i,m)::r=>if i=id then m else yY r id
def jA (P:Program) (md:List (Nat×Nat)) (nt fid:Nat):Code->Option VC
  | .skip=>some .skip
  | .region id ops draw=>UZ P nt ((fid*1000+id)*1000) ops draw (yY md id)
  | .seq a b=>do pure (.seq (<-jA P md nt fid a) (<-jA P md nt fid b))
  | .cond c x y=>do pure (.cond (<-cO P c) (<-jA P md nt fid x) (<-jA P md nt fid y))
  | .block id c=>(jA P md nt fid c).map (VC.block id)
  | .loop c=>(jA P md nt fid c).map VC.loop
  | .exit id=>some (.exit id)
  | .ret=>some .ret
  | .label _=>some .skip
  | .scope c=>jA P md nt fid c
  |_=>none
def FM (P:Program) (r:ResultVar):Option pB:=
  match r with
  | .tmp t=>some (.tmp t)
  | .cell a t=>do pure (.cell (<-pH P t) (<-eX P t) a)
def u7 (P:Program) (f:Nat) (md:List (Nat×Nat)):Option FC:=
  match P.funcs[f]? with
  |some fn=>match fn.body with
    |some c=>do
      let b <-jA P md fn.ntmps f c
      let r <-fn.results.toList.mapM (FM P)
      if fn.params.size+fn.nfree<=fn.ntmps then pure {ntmps:=fn.ntmps,Bc:=fn.params.size+fn.nfree,body:=b,res:=r}else none
    |none=>none
  |none=>none
def BP (P:Program) (f:Nat):Option FC:=u7 P f []
theorem ae {P:Prop} (h:P:=by omega):P:=h
theorem aU {P:Prop} (h:P:=by(try dsimp only);omega):P:=h
structure Row where
 w:Bool
 sz:Nat
 rows:List (List AV)
abbrev Rows:=Id->Option Row
structure ax where
 get:Rows
 next:Nat
abbrev Env:=Nat->AV
def upd (env:Env):Option Nat->AV->Env
 |some d,v=>fun t=>if t=d then v else env t
 |none,_=>env
inductive Ex where
 |normal
 |exit (id:Nat)
 |ret
 deriving DecidableEq
def du (env:Env):O->AV
 | .t n=>env n
 | .k c=>c.av
 | .ka cs=>.agg (cs.map K.av)
 | .f n=>.fn n []
def bK (g:Rows) (id:Id) (r:Row):Rows:=fun i=>if i=id then some r else g i
def cq (g:Rows) (id:Id):Rows:=fun i=>if i=id then none else g i
def fK:List Nat->Nat->Rows->Rows
 |[],_,g=>g
 |h::t,n,g=>fun id=>if (h::t).contains id.site=true/\id.bt=n then none else g id
def ro (g:Rows):Rows:=fun id=>(g id).map fun r=>{r with w:=false}
def part (agg:Bool) (n:Nat) (cs:List AV):Option AV:=
 if agg then(if n<=cs.length then some (.agg (cs.take n))else none)else cs.head?
def rowAt (g:Rows) (id:Id) (i:Nat):Option (List AV):=(g id).bind (·.rows[i]?)
def ld (g:Rows) (agg:Bool) (n:Nat):AV->Option AV
 | .ptr id i off=>(rowAt g id i).bind fun cs=>part agg n (cs.drop off)
 | .dv cs=>part agg n cs
 |_=>none
def dH:BinOp->IntKind->Int->Int->Option AV
 | .add,k,a,b=>some (.int k (k.wrap (a+b)))
 | .sub,k,a,b=>some (.int k (k.wrap (a-b)))
 | .mul,k,a,b=>some (.int k (k.wrap (a*b)))
 | .quo,k,a,b=>if b=0 then none else some (.int k (k.wrap (a.tdiv b)))
 | .rem,k,a,b=>if b=0 then none else some (.int k (a.tmod b))
 | .lss,_,a,b=>some (.bool (decide (a<b)))
 | .leq,_,a,b=>some (.bool (decide (a<=b)))
 | .gtr,_,a,b=>some (.bool (decide (b<a)))
 | .geq,_,a,b=>some (.bool (decide (b<=a)))
 | .and,k,a,b=>some (.int k (k.wrap (BitVec.ofInt k.bits a&&& BitVec.ofInt k.bits b).toNat))
 | .or,k,a,b=>some (.int k (k.wrap (BitVec.ofInt k.bits a|||BitVec.ofInt k.bits b).toNat))
 | .xor,k,a,b=>some (.int k (k.wrap (BitVec.ofInt k.bits a ^^^ BitVec.ofInt k.bits b).toNat))
 |_,_,_,_=>none
def dX (op:BinOp):AV->AV->Option AV
 | .int k a,.int k' b=>if k=k' then dH op k a b else none
 |_,_=>none
def gG (left:Bool):AV->AV->Option AV
 | .int k a,.int _ b=>if b<0 then none else some (.int k (if left then k.wrap (a*2 ^ min b.toNat k.bits)else a.fdiv (2 ^ min b.toNat k.bits)))
 |_,_=>none
def eh:BinOp->ByteArray->ByteArray->Option AV
 | .add,a,b=>if a.size+b.size<=9223372036854775807 then some (.str (a++b))else none
 | .lss,a,b=>some (.bool (Op.bytesLess a.toList b.toList))
 | .leq,a,b=>some (.bool (Op.bytesLess a.toList b.toList||(a.toList==b.toList)))
 | .gtr,a,b=>some (.bool !(Op.bytesLess a.toList b.toList||(a.toList==b.toList)))
 | .geq,a,b=>some (.bool !(Op.bytesLess a.toList b.toList))
 |_,_,_=>none
def dd (op:BinOp):AV->AV->Option AV
 | .str a,.str b=>eh op a b
 |_,_=>none
def fJ:TS->AV->AV->Option Bool
 | .tI,.int k a,.int k' b=>if k=k' then some (decide (a=b))else none
 | .tB,.bool a,.bool b=>some (a==b)
 | .tS,.str a,.str b=>some (decide (a=b))
 |_,_,_=>none
def fa:List TS->List AV->List AV->Option Bool
 |[],[],[]=>some true
 |t::ts,a::r,b::s=>match fJ t a b,fa ts r s with
  |some x,some y=>some (x&&y)
  |_,_=>none
 |_,_,_=>none
def dw (neg b:Bool):Bool:=if neg then !b else b
def db:AV->Option Bool
 | .ck=>some true
 | .own _ _ _=>some false
 | .sl (_::_)=>some false
 |_=>none
def da:AV->Option Bool
 | .jS=>some true
 | .fn _ _=>some false
 |_=>none
def MX:AV->Option Bool
 | .iZ=>some true
 | .ptr .. | .dv _=>some false
 |_=>none
def ea (OZ:Bool) (x:AV):Option Bool:=if OZ then da x else db x
def dM (len:Nat):Option AV->Option Nat
 |none=>some len
 |some (.int _ n)=>if 0<=n/\n<=len then some n.toNat else none
 |_=>none
def dP (h:Nat):Option AV->Option Nat
 |none=>some 0
 |some (.int _ n)=>if 0<=n/\n<=h then some n.toNat else none
 |_=>none
def bV (g:Rows) (sz:Nat) (x:AV) (lo hi:Option AV):Option AV:=
 match x with
 | .ck=>(dM 0 hi).bind fun h=>(dP h lo).map fun _=>.ck
 | .sl rows=>(dM rows.length hi).bind fun h=>(dP h lo).bind fun l=>if ∀cs∈rows,cs.length=sz then some (.sl ((rows.drop l).take (h-l)))else none
 | .own id off len=>(g id).bind fun r=>(dM len hi).bind fun h=>(dP h lo).bind fun l=>if r.sz=sz then some (.own id (off+l) (h-l))else none
 |_=>none
def bd (x:AV) (lo hi:Option AV):Option AV:=
 match x with
 | .str s=>(dM s.size hi).bind fun h=>(dP h lo).map fun l=>.str (s.extract l h)
 |_=>none
def G5 (off:Nat):AV->Option AV
 | .ptr id i o=>some (.ptr id i (o+off))
 | .dv cs=>some (.dv (cs.drop off))
 |_=>none
def bU (g:Rows) (sz:Nat):AV->AV->Option AV
 | .sl rows,.int _ n=>if 0<=n then(rows[n.toNat]?).bind fun cs=>if cs.length=sz then some (.dv cs)else none else none
 | .own id off len,.int _ n=>if 0<=n/\n<len then(g id).bind fun r=>if r.sz=sz then some (.ptr id (off+n.toNat) 0)else none else none
 |_,_=>none
def cU (len sz:Nat):AV->AV->Option AV
 | .ptr id r off,.int _ n=>if 0<=n/\n<len then some (.ptr id r (off+n.toNat*sz))else none
 | .dv cs,.int _ n=>if 0<=n/\n<len then some (.dv (cs.drop (n.toNat*sz)))else none
 |_,_=>none
def cW:AV->AV->Option AV
 | .str s,.int _ n=>if 0<=n then(s[n.toNat]?).map fun b=>.int .u8 b.toNat else none
 |_,_=>none
def cV (agg:Bool) (len n:Nat):AV->AV->Option AV
 | .agg cs,.int _ i=>if 0<=i/\i<len then part agg n (cs.drop (i.toNat*n))else none
 |_,_=>none
def dV:AV->Option Nat
 | .ck=>some 0
 | .sl rows=>some rows.length
 | .own _ _ n=>some n
 |_=>none
def eb:AV->Option AV
 | .bool b=>some (.bool !b)
 |_=>none
def dZ:AV->Option AV
 | .int k n=>some (.int k (k.wrap (0-n)))
 |_=>none
def cR (k:IntKind):AV->Option AV
 | .int _ n=>some (.int k (k.wrap n))
 |_=>none
def bY:AV->Option AV
 | .str s=>some (.str s)
 |_=>none
def dc:AV->AV->AV->Option AV
 | .bool c,a,b=>some (if c then a else b)
 |_,_,_=>none
def dY:AV->Option AV
 | .ptr id i o=>some (.ptr id i o)
 | .dv cs=>some (.dv cs)
 |_=>none
def bQ (agg:Bool) (off n:Nat):AV->Option AV
 | .agg cs=>if off+n<=cs.length then part agg n (cs.drop off)else none
 |_=>none
def aD (i:Nat):AV->Option AV
 | .ib vs=>vs[i]?
 |_=>none
def cY:AV->Option AV
 | .str s=>some (.int .i64 s.size)
 |_=>none
def rowOf (sz:Nat) (v:AV):Option (List AV):=if v.cells.length=sz/\v.cells.all AV.cell then some v.cells else none
def cQ (v:AV):Option (List AV):=if v.cells.all AV.cell then some v.cells else none
def rowsOf (sz:Nat):List AV->Option (List (List AV))
 |[]=>some []
 |v::r=>(rowOf sz v).bind fun c=>(rowsOf sz r).map fun cs=>c::cs
def cF:List AV->List (Nat×Nat×AV)->Option (List AV)
 |cs,[]=>some cs
 |cs,(off,n,v)::r=>if v.cells.length=n/\off+n<=cs.length/\v.cells.all AV.cell then cF (cs.take off++v.cells++cs.drop (off+n)) r else none
def dI:Nat:=16777216
def gF (zero:List K):AV->AV->Option (Nat×Row)
 | .int _ l,.int _ c=>if 0<=l/\l<=c/\c<=dI then some (l.toNat,⟨true,zero.length,List.replicate l.toNat (zero.map K.av)⟩)else none
 |_,_=>none
def xp:Nat:=1000000000
def MK.ks (m:MK):Nat:=m.ts.length
def MK.pU (m:MK):Nat:=xp+m.ks
def AV.isAgg:AV->Bool
 | .agg _=>true
 |_=>false
def iy (m:MK) (key:List AV):List (List AV)->Nat->Option (Option Nat)
 |[],_=>some none
 |r::l,i=>match fa m.ts key (r.take m.ks)with
  |some true=>some (some i)
  |some false=>iy m key l (i+1)
  |none=>none
def dQ (g:Rows) (m:MK):AV->Option (Id×Row)
 | .map id m'=>if m'=m then(g id).map fun r=>(id,r)else none
 |_=>none
def gW (m:MK) (k:AV) (rows:List (List AV)):Option (Option Nat):=if k.isAgg=m.ka/\k.cells.length=m.ks/\k.cells.all AV.cell then iy m k.cells rows 0 else none
def dW (m:MK) (z:K) (rows:List (List AV)):Option Nat->Option AV
 |some i=>(rows[i]?).bind fun cs=>cs[m.ks]?
 |none=>some z.av
def bH (q:MQ) (vs:List AV) (g:Rows) (id:Id):Option (AV×Option Row):=
 match q,vs with
 | .new m,[]=>some (.map id m,some ⟨true,m.pU,[]⟩)
 | .look m ok z,[x,k]=>(dQ g m x).bind fun p=>(gW m k p.2.rows).bind fun fi=>(dW m z p.2.rows fi).map fun v=>(if ok then .ib [v,.bool fi.isSome]else v,none)
 | .len m,[x]=>(dQ g m x).map fun p=>(.int .i64 p.2.rows.length,none)
 |_,_=>none
def tV:Nat:=2000000000
def cZ:AV->Option Nat
 | .int _ n=>if 0<=n/\n<=1048576 then some n.toNat else none
 |_=>none
def cX (g:Rows):AV->Option AV
 | .tQ id=>(g id).map fun r=>.int .i64 r.rows.length
 |_=>none
def ee (g:Rows):AV->AV->Option Rows
 | .tQ id,v=>(g id).bind fun r=>if r.w/\tV+r.rows.length<r.sz/\v.cell then some (bK g id {r with rows:=r.rows++[[v]]})else none
 |_,_=>none
def ec (g:Rows):AV->Option (AV×Rows)
 | .tQ id=>(g id).bind fun r=>match r.rows with
  |[v]::rest=>if r.w then some (v,bK g id {r with rows:=rest})else none
  |_=>none
 |_=>none
def dL (rows:List (List AV)) (e:List AV):Option Nat->List (List AV)
 |some i=>rows.set i e
 |none=>rows++[e]
def dK (rows:List (List AV)):Option Nat->List (List AV)
 |some i=>rows.eraseIdx i
 |none=>rows
def bJ (q:MW) (vs:List AV) (g:Rows):Option Rows:=
 match q,vs with
 | .set m,[x,k,v]=>(dQ g m x).bind fun p=>(gW m k p.2.rows).bind fun fi=>if p.2.w/\v.cell/\v.isAgg=false then some (bK g p.1 {p.2 with rows:=dL p.2.rows (k.cells++[v]) fi})else none
 | .del m,[x,k]=>(dQ g m x).bind fun p=>(gW m k p.2.rows).bind fun fi=>if p.2.w then some (bK g p.1 {p.2 with rows:=dK p.2.rows fi})else none
 |_,_=>none
def eR (o:iH) (ρ:O->AV) (g:Rows) (id:Id):Option (AV×Option Row):=
 match o with
 | .dF x=>some (ρ x,none)
 | .pick c a b=>(dc (ρ c) (ρ a) (ρ b)).map (·,none)
 | .new zero=>some (.ptr id 0 0,some ⟨true,zero.length,[zero.map K.av]⟩)
 | .box x=>(cQ (ρ x)).map fun cs=>(.ptr id 0 0,some ⟨true,cs.length,[cs]⟩)
 | .build zero parts=>(cF (zero.map K.av) (parts.map fun(o,n,x)=>(o,n,ρ x))).map fun cs=>(.agg cs,none)
 | .fZ sz len parts=>(rowsOf sz (parts.map ρ)).map fun rs=>(.own id 0 len,some ⟨true,sz,rs⟩)
 | .load agg n a=>(ld g agg n (ρ a)).map (·,none)
 | .C2 x=>(dY (ρ x)).map (·,none)
 | .bin op _ x y=>(dX op (ρ x) (ρ y)).map (·,none)
 | .sh left x y=>(gG left (ρ x) (ρ y)).map (·,none)
 | .yn op x y=>(dd op (ρ x) (ρ y)).map (·,none)
 | .Nu neg t x y=>(fJ t (ρ x) (ρ y)).map fun b=>(.bool (dw neg b),none)
 | .WW neg ts x y=>match ρ x,ρ y with
  | .agg xs,.agg ys=>(fa ts xs ys).map fun b=>(.bool (dw neg b),none)
  |_,_=>none
 | .Vc neg OZ x=>(ea OZ (ρ x)).map fun b=>(.bool (dw neg b),none)
 | .WX neg x=>(MX (ρ x)).map fun b=>(.bool (dw neg b),none)
 | .not x=>(eb (ρ x)).map (·,none)
 | .neg x=>(dZ (ρ x)).map (·,none)
 | .conv k x=>(cR k (ρ x)).map (·,none)
 | .Hr x=>(bY (ρ x)).map (·,none)
 | .slice sz x lo hi=>(bV g sz (ρ x) (lo.map ρ) (hi.map ρ)).map (·,none)
 | .CN x lo hi=>(bd (ρ x) (lo.map ρ) (hi.map ρ)).map (·,none)
 | .eA off x=>(G5 off (ρ x)).map (·,none)
 | .field agg off n x=>(bQ agg off n (ρ x)).map (·,none)
 | .gz sz x i=>(bU g sz (ρ x) (ρ i)).map (·,none)
 | .OR len sz x i=>(cU len sz (ρ x) (ρ i)).map (·,none)
 | .OU x i=>(cW (ρ x) (ρ i)).map (·,none)
 | .eO agg len n x i=>(cV agg len n (ρ x) (ρ i)).map (·,none)
 | .extract i x=>(aD i (ρ x)).map (·,none)
 | .len x=>(dV (ρ x)).map fun(n:Nat)=>(AV.int .i64 (n:Int),none)
 | .O4 x=>(cY (ρ x)).map (·,none)
 | .O7 f dG=>some (.fn f (dG.map ρ),none)
 | .O8 f first=>some (.wR f (first.map ρ),none)
 | .nf zero l c=>(gF zero (ρ l) (ρ c)).map fun(n,r)=>(.own id 0 n,some r)
 | .mq q xs=>bH q (xs.map ρ) g id
 | .L8 x=>(cZ (ρ x)).map fun n=>(.tQ id,some ⟨true,tV+n,[]⟩)
 | .LY x=>(cX g (ρ x)).map (·,none)
 |_=>none
def bD (g:Rows):AV->Option (List (List AV))
 | .ck=>some []
 | .sl rows=>some rows
 | .own id off len=>(g id).bind fun r=>if off+len<=r.rows.length then some ((r.rows.drop off).take len)else none
 |_=>none
def cL (cs:List AV) (off:Nat) (xs:List AV):List AV:=cs.take off++xs++cs.drop (off+xs.length)
def bW (g:Rows) (n:Nat) (v:AV):AV->Option Rows
 | .ptr id i off=>(g id).bind fun r=>(r.rows[i]?).bind fun cs=>
  if r.w/\v.cells.length=n/\v.cells.all AV.cell/\off+n<=cs.length then some (bK g id {r with rows:=r.rows.set i (cL cs off v.cells)})else none
 |_=>none
def aY (g:Rows) (id:Id) (sz:Nat) (x:AV) (ys:List (List AV)):Option (AV×Rows):=
 match x with
 | .ck=>match ys with
  |[]=>some (.ck,g)
  |y::r=>if (y::r).length<=dI/\(y::r).all (fun c=>c.length==sz&&c.all AV.cell)then some (.own id 0 (y::r).length,bK g id ⟨true,sz,y::r⟩)else none
 | .own i 0 len=>(g i).bind fun r=>
  if r.w/\r.sz=sz/\len=r.rows.length/\len+ys.length<=dI/\ys.all (fun c=>c.length==sz&&c.all AV.cell)then some (.own id 0 (len+ys.length),bK (cq g i) id ⟨true,sz,r.rows++ys⟩)else none
 |_=>none
def Ij (g:Rows) (sz:Nat) (x:AV) (ys:List (List AV)):Option (AV×Rows):=
 match x with
 | .own i off len=>(g i).bind fun r=>
  if r.w/\r.sz=sz/\off+len<=r.rows.length/\ys.all (fun c=>c.length==sz&&c.all AV.cell)then
   some (.int .i64 (min ys.length len:Nat),bK g i {r with rows:=r.rows.take off++ys.take (min ys.length len)++r.rows.drop (off+min ys.length len)})else none
 |_=>none
def bP (g:Rows) (zero:List K) (x:AV):Option Rows:=
 match x with
 | .ck=>some g
 | .own i off len=>(g i).bind fun r=>
  if r.w/\r.sz=zero.length/\off+len<=r.rows.length then
   some (bK g i {r with rows:=r.rows.take off++List.replicate len (zero.map K.av)++r.rows.drop (off+len)})else none
 |_=>none
def fN (o:iH) (ρ:O->AV) (g:Rows) (id:Id):Option (AV×Rows):=
 match o with
 | .store n a x=>(bW g n (ρ x) (ρ a)).map fun g'=>(.undef,g')
 | .append sz x y=>(bD g (ρ y)).bind fun ys=>aY g id sz (ρ x) ys
 | .copy sz x y=>(bD g (ρ y)).bind fun ys=>Ij g sz (ρ x) ys
 | .clear zero x=>(bP g zero (ρ x)).map fun g'=>(.undef,g')
 | .mw q xs=>(bJ q (xs.map ρ) g).map fun g'=>(.undef,g')
 |_=>none
def yh:AV->List AV->Option (Nat×List AV)
 | .fn f dG,l=>some (f,l++dG)
 | .wR f first,l=>some (f,first++l)
 |_,_=>none
abbrev gP:=Nat->List AV->ax->(AV->ax->Prop)->Prop
mutual
def fz (g:Rows):Nat->AV->Option AV
 |0,_=>none
 |n+1,a=>match a with
  | .own id off len=>match g id with
   |some r=>if r.w then(if off+len<=r.rows.length then(eZ g n ((r.rows.drop off).take len)).map AV.sl else none)else none
   |none=>none
  | .ptr id i off=>match g id with
   |some r=>if r.w then(match r.rows[i]? with
    |some cs=>(eC g n (cs.drop off)).map AV.dv
    |none=>none)else none
   |none=>none
  | .agg cs=>(eC g n cs).map AV.agg
  | .ib vs=>(eC g n vs).map AV.ib
  | .fn f dG=>if dG.all AV.cell then(eC g n dG).map (AV.fn f)else none
  | .map _ _| .wR _ _| .tQ _=>none
  |v=>some v
 termination_by n _=>(n,0)
def eC (g:Rows):Nat->List AV->Option (List AV)
 |n,[]=>some []
 |n,a::r=>match fz g n a with
  |some b=>(eC g n r).map (b::·)
  |none=>none
 termination_by n l=>(n,l.length+1)
def eZ (g:Rows):Nat->List (List AV)->Option (List (List AV))
 |n,[]=>some []
 |n,c::r=>match eC g n c with
  |some b=>(eZ g n r).map (b::·)
  |none=>none
 termination_by n l=>(n,(l.map (fun c=>c.length+2)).sum+1)
 decreasing_by all_goals simp_wf;try omega
end
mutual
def gU (g:Rows):Nat->AV->Option AV
 |0,_=>none
 |n+1,a=>match a with
  | .own id off len=>match g id with
   |some r=>if r.w then(if off+len<=r.rows.length then(iu g n ((r.rows.drop off).take len)).map AV.sl else none)else none
   |none=>none
  | .ptr id i off=>match g id with
   |some r=>if r.w then(match r.rows[i]? with
    |some cs=>(fb g n (cs.drop off)).map AV.dv
    |none=>none)else none
   |none=>none
  | .agg cs=>(fb g n cs).map AV.agg
  | .ib vs=>(fb g n vs).map AV.ib
  | .int k m=>some (.int k m)
  | .bool b=>some (.bool b)
  | .str s=>some (.str s)
  | .ck=>some .ck
  | .iZ=>some .iZ
  | .jS=>some .jS
  | .j6=>some .j6
  |_=>none
 termination_by n _=>(n,0)
def fb (g:Rows):Nat->List AV->Option (List AV)
 |n,[]=>some []
 |n,a::r=>match gU g n a with
  |some b=>(fb g n r).map (b::·)
  |none=>none
 termination_by n l=>(n,l.length+1)
def iu (g:Rows):Nat->List (List AV)->Option (List (List AV))
 |n,[]=>some []
 |n,c::r=>match fb g n c with
  |some b=>(iu g n r).map (b::·)
  |none=>none
 termination_by n l=>(n,(l.map (fun c=>c.length+2)).sum+1)
 decreasing_by all_goals simp_wf;try omega
end
def eu (g:Rows):Rows:=fun id=>(g id).map fun r=>{r with w:=true}
def PC (X:gP) (f:Nat) (args:List AV) (σ:ax) (K:AV->Prop):Prop:=
 X f args ⟨ro σ.get,σ.next⟩ fun r σ'=>∃r',fz σ'.get 6 r=some r'/\K r'
def PCv (X:gP) (f:Nat) (args:List AV) (σ:ax) (K:AV->Prop):Prop:=
 ∃args',eC (eu σ.get) 6 args=some args'/\X f args' ⟨fun _=>none,σ.next⟩ fun r σ'=>∃r',gU σ'.get 6 r=some r'/\K r'
def fY (X:gP) (f:Nat) (args:List AV) (σ:ax) (K:AV->Prop):Prop:=PC X f args σ K∨PCv X f args σ K
def aF (g:Option (Nat×Bool)) (env:Env):Bool:=
 match g with
 |none=>true
 |some (t,b)=>match env t with
  | .bool c=>c==b
  |_=>false
def AV.plain:AV->Bool
 | .int .. | .bool _| .str _| .ck| .iZ| .jS| .j6=>true
 |_=>false
def CM (X:gP) (f:Nat) (args:List AV) (σ:ax) (sz:Nat) (rows:List (List AV)):Prop:=
 (∀c∈rows,∀a∈c,a.plain=true)/\∃args',eC (eu σ.get) 6 args=some args'/\X f args' ⟨fun _=>none,σ.next⟩ fun r σ'=>∃id,r=.own id 0 rows.length/\σ'.get id=some ⟨true,sz,rows⟩
def cK (X:gP) (draw:Bool) (hid:List Nat) (site:Nat) (f:Nat) (args:List AV) (σ:ax) (next:AV->ax->Prop):Prop:=
 (∃r,fY X f args ⟨fK hid σ.next σ.get,σ.next+1⟩ (fun r'=>r'=r)/\next r σ)∨
 (draw=false/\X f args ⟨σ.get,σ.next+1⟩ next)∨
 (hid.contains site=true/\∃sz rows,CM X f args ⟨fK hid σ.next σ.get,σ.next+1⟩ sz rows/\next (.own ⟨site,σ.next⟩ 0 rows.length) ⟨bK σ.get ⟨site,σ.next⟩ ⟨true,sz,rows⟩,σ.next⟩)
def fC (X:gP) (draw:Bool) (o:bc) (env:Env) (σ:ax) (next:AV->ax->Prop):Prop:=
 match o.op with
 | .call f args=>cK X draw o.hid o.site f (args.map (du env)) σ next
 | .wu x args=>match du env x with
  | .fn f dG=>cK X draw o.hid o.site f (args.map (du env)++dG) σ next
  | .wR f first=>cK X draw o.hid o.site f (first++args.map (du env)) σ next
  |_=>False
 | .store .. | .append .. | .copy .. | .clear .. | .mw .. =>match fN o.op (du env) σ.get ⟨o.site,σ.next⟩with
  |some (v,g)=>next v ⟨g,σ.next⟩
  |none=>False
 |_=>match eR o.op (du env) (fK o.hid σ.next σ.get) ⟨o.site,σ.next⟩with
  |some (v,some r)=>next v ⟨bK σ.get ⟨o.site,σ.next⟩ r,σ.next⟩
  |some (v,none)=>next v σ
  |none=>False
def wpOps (X:gP) (draw:Bool):List bc->(Env->ax->Prop)->Env->ax->Prop
 |[],K,env,σ=>K env ⟨σ.get,σ.next+1⟩
 |o::r,K,env,σ=>
  if aF o.guard env then fC X draw o env σ fun v σ'=>wpOps X draw r K (upd env o.dst v) σ'
  else wpOps X draw r K (upd env o.dst .undef) σ
def cz:List bc->(Env->ax->Prop)->Env->ax->Prop
 |[],K,env,σ=>K env ⟨σ.get,σ.next+1⟩
 |o::r,K,env,σ=>o.guard=none/\match o.op with
  | .snd x y=>match ee σ.get (du env x) (du env y)with
   |some g=>cz r K (upd env o.dst .undef) ⟨g,σ.next⟩
   |none=>False
  | .Sq x=>match ec σ.get (du env x)with
   |some (v,g)=>cz r K (upd env o.dst v) ⟨g,σ.next⟩
   |none=>False
  |op=>match eR op (du env) σ.get ⟨o.site,σ.next⟩with
   |some (v,none)=>cz r K (upd env o.dst v) σ
   |_=>False
def dn (next:Env->ax->Prop) (Q:Ex->Env->ax->Prop):Ex->Env->ax->Prop
 | .normal=>next
 |e=>Q e
def bj (id:Nat) (Q:Ex->Env->ax->Prop):Ex->Env->ax->Prop
 | .exit kV=>if kV=id then Q .normal else Q (.exit kV)
 |e=>Q e
def HX (W:(Ex->Env->ax->Prop)->Env->ax->Prop) (Q:Ex->Env->ax->Prop):Nat->Env->ax->Prop
 |0=>fun _ _=>False
 |n+1=>W (dn (HX W Q n) Q)
def O5 (t s:Nat) (y:O) (env:Env) (n:Nat):Prop:=(∃len,env t=.own ⟨s,n⟩ 0 len)/\∀id o l,du env y=.own id o l->id.bt≠n
def er (X:gP):VC->(Ex->Env->ax->Prop)->Env->ax->Prop
 | .skip,Q=>Q .normal
 | .fo draw ops,Q=>wpOps X draw ops (Q .normal)
 | .seq a b,Q=>er X a (dn (er X b Q) Q)
 | .cond c x y,Q=>fun env σ=>match du env c with
  | .bool b=>if b then er X x Q env σ else er X y Q env σ
  |_=>False
 | .block id c,Q=>er X c (bj id Q)
 | .loop c,Q=>fun env σ=>∃n,HX (er X c) Q n env σ
 | .exit id,Q=>Q (.exit id)
 | .ret,Q=>Q .ret
 | .one o c,Q=>fun env σ=>if aF o.guard env then fC X false o env σ fun v σ'=>er X c Q (upd env o.dst v) σ' else er X c Q (upd env o.dst .undef) σ
 | .both a b,Q=>fun env σ=>er X a Q env σ/\er X b Q env σ
 | .loc t s y c,Q=>fun env σ=>O5 t s y env σ.next/\er X c Q env σ
 | .Q5 ops,Q=>cz ops (Q .normal)
def jD (env:Env) (g:Rows):pB->Option AV
 | .tmp t=>some (env t)
 | .cell agg n t=>ld g agg n (env t)
def gS (env:Env) (g:Rows):List pB->Option (List AV)
 |[]=>some []
 |r::l=>(jD env g r).bind fun v=>(gS env g l).map (v::·)
def gx:List AV->AV
 |[v]=>v
 |l=>.ib l
def cw (args:List AV):Env:=fun t=>args.getD t .undef
def mh (res:List pB) (K:AV->ax->Prop):Ex->Env->ax->Prop
 | .exit _,_,_=>False
 |_,env,σ=>∃vs,gS env σ.get res=some vs/\K (gx vs) σ
inductive ly (P:Program) (w:World) (D:Nat->Prop):AV->Value->Prop
 |int (k n):ly P w D (.int k n) (.int k n)
 |bool (b):ly P w D (.bool b) (.bool b)
 |str (s):ly P w D (.str s) (.string s)
 |ck:ly P w D .ck (.slice none 0 0)
 |iZ:ly P w D .iZ (.pointer none)
 |jS:ly P w D .jS .nilFunc
 |Db (a c):c<=maxLen->ly P w D (.sl []) (.slice a 0 c)
 |sl (rows b o n c sz) (vs:Nat->Nat->Value):rows.length=n->n<=c->c<=maxLen->D b->(∀cs∈rows,cs.length=sz)->(∀cs∈rows,∀a∈cs,a.cell=true)->
   (∀i j,i<n->j<sz->w.cell? ⟨b,o+(i*sz+j),none⟩=some (vs i j))->
   (∀i j cs a,rows[i]? =some cs->cs[j]? =some a->ly P w D a (vs i j))->ly P w D (.sl rows) (.slice (some ⟨b,o,none⟩) n c)
 |dv (cs b o) (vs:Nat->Value):D b->(∀a∈cs,a.cell=true)->(∀j,j<cs.length->w.cell? ⟨b,o+j,none⟩=some (vs j))->
   (∀j a,cs[j]? =some a->ly P w D a (vs j))->ly P w D (.dv cs) (.pointer (some ⟨b,o,none⟩))
 |agg (cs) (vs:Array Value) (f:Nat->Value):vs.size=cs.length->(∀a∈cs,a.cell=true)->(∀j,j<cs.length->vs[j]? =some (f j))->(∀j a,cs[j]? =some a->ly P w D a (f j))->ly P w D (.agg cs) (.agg vs)
 |fn (f dG) (vs:Array Value) (g:Nat->Value):gT P f=true->vs.size=dG.length->(∀j,j<dG.length->vs[j]? =some (g j))->(∀j a,dG[j]? =some a->ly P w D a (g j))->ly P w D (.fn f dG) (.func (.func f) #[] vs)
 |j6:ly P w D .j6 (.map none)
inductive BK where
 |map (m:MK)
 |chan (cap:Nat)
structure uS where
 b:Nat
 sz:Nat
 C:Nat
 k:Option BK
abbrev Names:=Id->Option uS
inductive dy (P:Program) (w:World) (D:Nat->Prop) (ι:Names):AV->Value->Prop
 |fy (a v):ly P w D a v->dy P w D ι a v
 |own (id off len o cap B):ι id=some B->B.k=none->len<=cap->(cap=0∨o=off*B.sz)->(off+cap)*B.sz<=B.C->cap<=maxLen->dy P w D ι (.own id off len) (.slice (some ⟨B.b,o,none⟩) len cap)
 |ptr (id i off B):ι id=some B->B.k=none->dy P w D ι (.ptr id i off) (.pointer (some ⟨B.b,i*B.sz+off,none⟩))
 |agg (cs) (vs:Array Value) (f:Nat->Value):vs.size=cs.length->(∀a∈cs,a.cell=true)->(∀j,j<cs.length->vs[j]? =some (f j))->(∀j a,cs[j]? =some a->dy P w D ι a (f j))->dy P w D ι (.agg cs) (.agg vs)
 |ib (cs) (vs:Array Value) (f:Nat->Value):vs.size=cs.length->(∀j,j<cs.length->vs[j]? =some (f j))->(∀j a,cs[j]? =some a->dy P w D ι a (f j))->dy P w D ι (.ib cs) (.tuple vs)
 |fn (f dG) (vs:Array Value) (g:Nat->Value):gT P f=true->vs.size=dG.length->(∀j,j<dG.length->vs[j]? =some (g j))->(∀j a,dG[j]? =some a->dy P w D ι a (g j))->dy P w D ι (.fn f dG) (.func (.func f) #[] vs)
 |tQ (id c B):ι id=some B->B.k=some (.chan c)->dy P w D ι (.tQ id) (.chan (some B.b))
 |map (id m B):ι id=some B->B.k=some (.map m)->dy P w D ι (.map id m) (.map (some B.b))
 |wR (f dG) (vs:Array Value) (g:Nat->Value):gT P f=true->vs.size=dG.length->(∀j,j<dG.length->vs[j]? =some (g j))->(∀j a,dG[j]? =some a->dy P w D ι a (g j))->dy P w D ι (.wR f dG) (.func (.func f) vs #[])
variable {P:Program} {w w':World} {D D':Nat->Prop} {ι ι':Names}
theorem ly.frame (hD:∀b,D b->w'.heap[b]? =w.heap[b]?) (hs:∀b,D b->D' b) {a:AV} {v:Value} (h:ly P w D a v):ly P w' D' a v:=by
 induction h with
 |int k n=>exact .int k n
 |bool b=>exact .bool b
 |str s=>exact .str s
 |ck=>exact .ck
 |iZ=>exact .iZ
 |jS=>exact .jS
 |j6=>exact .j6
 |Db a c h=>exact .Db a c h
 |sl rows b o n c sz vs h1 h2 h3 h4 h5 h5' h6 _ ih=>exact .sl rows b o n c sz vs h1 h2 h3 (hs b h4) h5 h5' (fun i j hi hj=>(World.cell?_of_block (hD b h4)).trans (h6 i j hi hj)) ih
 |dv cs b o vs h1 Rm h2 _ ih=>exact .dv cs b o vs (hs b h1) Rm (fun j hj=>(World.cell?_of_block (hD b h1)).trans (h2 j hj)) ih
 |agg cs vs f h1 h2 h3 _ ih=>exact .agg cs vs f h1 h2 h3 ih
 |fn f dG vs g h1 h2 h3 _ ih=>exact .fn f dG vs g h1 h2 h3 ih
theorem dy.frame (hD:∀b,D b->w'.heap[b]? =w.heap[b]?) (hs:∀b,D b->D' b) (hι:∀id B,ι id=some B->ι' id=some B) {a:AV} {v:Value} (h:dy P w D ι a v):dy P w' D' ι' a v:=by
 induction h with
 |fy a v h=>exact .fy a v (h.frame hD hs)
 |map id m B h1 h2=>exact .map id m B (hι _ _ h1) h2
 |tQ id c B h1 h2=>exact .tQ id c B (hι _ _ h1) h2
 |own id off len o cap B h1 h2 h3 h4 h5 h6=>exact .own id off len o cap B (hι _ _ h1) h2 h3 h4 h5 h6
 |ptr id i off B h1 h2=>exact .ptr id i off B (hι _ _ h1) h2
 |agg cs vs f h1 h2 h3 _ ih=>exact .agg cs vs f h1 h2 h3 ih
 |ib cs vs f h1 h2 _ ih=>exact .ib cs vs f h1 h2 ih
 |fn f dG vs g h1 h2 h3 _ ih=>exact .fn f dG vs g h1 h2 h3 ih
 |wR f dG vs g h1 h2 h3 _ ih=>exact .wR f dG vs g h1 h2 h3 ih
theorem dy.undef:dy P w D ι .undef Go.undef:=.ib [] #[] (fun _=>Go.undef) rfl (fun j hj=>by simp at hj) (fun j a h=>by simp at h)
theorem zl (c:K):dy P w D ι c.av c.val:=by
 cases c with
 |int k n=>exact .fy _ _ (.int k n)
 |bool b=>exact .fy _ _ (.bool b)
 |str l=>exact .fy _ _ (.str _)
 |ck=>exact .fy _ _ .ck
 |iZ=>exact .fy _ _ .iZ
 |jS=>exact .fy _ _ .jS
 |j6=>exact .fy _ _ .j6
theorem K.oz (c:K):c.av.cell=true:=by cases c<;>rfl
theorem Ci {v:Value} {c:K} (h:Jn v=some c):v=c.val:=by
 unfold Jn at h
 split at h<;>simp at h<;>subst h<;>rfl
theorem dy.Dx {a:AV} {v:Value} (h:dy P w D ι a v) (hc:a.cell=true):v.cells= #[v]/\(∀vs,v≠.agg vs)/\(∀vs,v≠.tuple vs):=by
 cases h with
 |fy a v h=>cases h<;>simp_all [AV.cell,Value.cells]
 |own=>simp[Value.cells]
 |map=>simp[Value.cells]
 |tQ=>simp[Value.cells]
 |ptr=>simp[Value.cells]
 |agg=>simp[AV.cell]at hc
 |ib=>simp[AV.cell]at hc
 |fn=>simp[Value.cells]
 |wR=>simp[Value.cells]
theorem dy.cells {a:AV} {v:Value} (h:dy P w D ι a v) (ha:a.cells.all AV.cell=true):v.cells.size=a.cells.length/\∃f:Nat->Value,(∀j,j<a.cells.length->v.cells[j]? =some (f j))/\∀j x,a.cells[j]? =some x->dy P w D ι x (f j):=by
 have one:∀(a:AV) (v:Value),a.cell=true->a.cells=[a]->dy P w D ι a v->v.cells.size=a.cells.length/\∃f:Nat->Value,(∀j,j<a.cells.length->v.cells[j]? =some (f j))/\∀j x,a.cells[j]? =some x->dy P w D ι x (f j):=by
  intro a v hc eD h
  obtain⟨h1,_,_⟩:=h.Dx hc
  rw[h1,eD]
  refine⟨rfl,fun _=>v,fun j hj=>?_,fun j x hx=>?_⟩
  ·have:j=0:=by simp at hj;omega
   subst this;rfl
  ·cases j with
   |zero=>simp at hx;subst hx;exact h
   |succ j=>simp at hx
 cases h with
 |fy a v h=>
  cases h with
  |agg cs vs f h1 h2 h3 h4=>exact⟨h1,f,h3,fun j x hx=>.fy _ _ (h4 j x hx)⟩
  |_=>exact one _ _ rfl rfl (.fy _ _ (by constructor<;>assumption))
 |own id off len o cap B h1 h2 h3 h4 h5 h6=>exact one _ _ rfl rfl (.own id off len o cap B h1 h2 h3 h4 h5 h6)
 |ptr id i off B h1 h2=>exact one _ _ rfl rfl (.ptr id i off B h1 h2)
 |map id m B h1 h2=>exact one _ _ rfl rfl (.map id m B h1 h2)
 |tQ id c B h1 h2=>exact one _ _ rfl rfl (.tQ id c B h1 h2)
 |agg cs vs f h1 h2 h3 h4=>exact⟨h1,f,h3,h4⟩
 |ib cs vs f h1 h2 h3=>simp[AV.cells,AV.cell]at ha
 |fn f dG vs g h1 h2 h3 h4=>exact one _ _ rfl rfl (.fn f dG vs g h1 h2 h3 h4)
 |wR f dG vs g h1 h2 h3 h4=>exact one _ _ rfl rfl (.wR f dG vs g h1 h2 h3 h4)
structure mN (P:Program) (w:World) (D:Nat->Prop) (ι:Names) (B:uS) (r:Row):Prop where
 sz:B.sz=r.sz
 zQ:∃cells T,w.heap[B.b]? =some (.cells cells T (0,0))/\cells.size=B.C
 fits:r.rows.length*r.sz<=B.C
 len:∀cs∈r.rows,cs.length=r.sz
 flat:∀cs∈r.rows,∀a∈cs,a.cell=true
 at_:∀i j cs a,r.rows[i]? =some cs->cs[j]? =some a->∃v,w.cell? ⟨B.b,i*r.sz+j,none⟩=some v/\dy P w D ι a v
def NU (es:Array MapEntry) (clock:Nat):Prop:=(∀x∈es.toList,x.born<clock)/\(es.toList.map (·.born)).Nodup
def PZ (P:Program) (w:World) (D:Nat->Prop) (ι:Names) (B:uS) (m:MK) (r:Row):Prop:=
 ∃(es:Array MapEntry) (clock:Nat),w.heap[B.b]? =some (.map es clock)/\es.size=r.rows.length/\((∀cs∈r.rows,cs.length=m.ks+1)/\NU es clock)/\
  ∀(i:Nat) (cs:List AV),r.rows[i]? =some cs->∃(e:MapEntry) (kv vv:AV),es[i]? =some e/\part m.ka m.ks cs=some kv/\cs[m.ks]? =some vv/\dy P w D ι kv e.key/\dy P w D ι vv e.val
def Kt (P:Program) (w:World) (D:Nat->Prop) (ι:Names) (B:uS) (c:Nat) (r:Row):Prop:=
 ∃(buf:Array Value) (s q:Nat),w.heap[B.b]? =some (.chan c buf false s q false)/\buf.size=r.rows.length/\
  ∀(i:Nat) (cs:List AV),r.rows[i]? =some cs->∃(a:AV) (u:Value),cs=[a]/\buf[i]? =some u/\dy P w D ι a u
structure jk (P:Program) (w:World) (D:Nat->Prop) (ι:Names) (B:uS) (r:Row):Prop where
 sz:B.sz=r.sz
 flat:∀cs∈r.rows,∀a∈cs,a.cell=true
 row:B.k=none->mN P w D ι B r
 map:∀m,B.k=some (.map m)->r.sz=m.pU/\PZ P w D ι B m r
 chan:∀c,B.k=some (.chan c)->r.sz=tV+c/\Kt P w D ι B c r
theorem mN.obj {B:uS} {r:Row} (R:mN P w D ι B r) (h:B.k=none):jk P w D ι B r:=⟨R.sz,R.flat,fun _=>R,fun m hm=>(by rw[h]at hm;cases hm),fun m hm=>by rw[h]at hm;cases hm⟩
theorem jk.flag {B:uS} {r:Row} (R:jk P w D ι B r) (b:Bool):jk P w D ι B {r with w:=b}:=⟨R.sz,R.flat,fun h=>⟨R.sz,(R.row h).zQ,(R.row h).fits,(R.row h).len,R.flat,(R.row h).at_⟩,R.map,R.chan⟩
theorem jk.Pb {B:uS} {r:Row} (R:jk P w D ι B r) {c:Array Value} {T:TypeId} {z:Nat×Nat} (h:w.heap[B.b]? =some (.cells c T z)):B.k=none:=by
 cases hk:B.k with
 |none=>rfl
 |some m=>
  cases m with
  |map m=>obtain⟨_,es,c,h3,_⟩:=R.map m hk;rw[h]at h3;cases h3
  |chan c=>obtain⟨_,buf,s,q,h3,_⟩:=R.chan c hk;rw[h]at h3;cases h3
theorem jk.lt {B:uS} {r:Row} (R:jk P w D ι B r):B.b<w.heap.size:=by
 cases h:B.k with
 |none=>
  obtain⟨c,T,h3,_⟩:=(R.row h).zQ
  exact(Array.getElem?_eq_some_iff.1 h3).1
 |some m=>
  cases m with
  |map m=>obtain⟨_,es,c,h3,_⟩:=R.map m h;exact(Array.getElem?_eq_some_iff.1 h3).1
  |chan c=>obtain⟨_,buf,s,q,h3,_⟩:=R.chan c h;exact(Array.getElem?_eq_some_iff.1 h3).1
structure iD (P:Program) (hs:Nat) (D:Nat->Prop) (ι:Names) (g:Rows) (w:World):Prop where
 lo:hs<=w.heap.size
 dead:∀b,D b->b<w.heap.size
 row:∀id r,g id=some r->∃B,ι id=some B/\jk P w D ι B r/\(r.w=true->hs<=B.b)/\(r.w=true->¬D B.b)
 inj:∀id kV r r' B B',g id=some r->g kV=some r'->r.w=true->ι id=some B->ι kV=some B'->B.b=B'.b->id=kV
def Used (ι:Names) (n:Nat) (U:Nat->Prop):Prop:=∀id,ι id≠none->id.bt<n∨(id.bt=n/\U id.site)
structure Step (hs:Nat) (D:Nat->Prop) (ι:Names) (w:World) (D':Nat->Prop) (ι':Names) (w':World):Prop where
 below:Below hs w w'
 sa:∀b,D b->w'.heap[b]? =w.heap[b]?
 dead:∀b,D b->D' b
 names:∀id B,ι id=some B->ι' id=some B
 new:∀b,D' b->D b∨hs<=b
theorem Step.refl (hs:Nat) (D:Nat->Prop) (ι:Names) (w:World):Step hs D ι w D ι w:=⟨Below.refl _ _,fun _ _=>rfl,fun _ h=>h,fun _ _ h=>h,fun _ h=>.inl h⟩
theorem Step.trans {hs:Nat} {D D' D'':Nat->Prop} {ι ι' WU:Names} {w w' NP:World} (h:Step hs D ι w D' ι' w') (k:Step hs D' ι' w' D'' WU NP):Step hs D ι w D'' WU NP:=
 ⟨h.below.trans k.below,fun b hb=>(k.sa b (h.dead b hb)).trans (h.sa b hb),fun b hb=>k.dead b (h.dead b hb),fun id B hB=>k.names id B (h.names id B hB),fun b hb=>by
  rcases k.new b hb with hb|hb
  ·exact h.new b hb
  ·exact .inr hb⟩
theorem Step.rep {hs:Nat} {D D':Nat->Prop} {ι ι':Names} {w w':World} (h:Step hs D ι w D' ι' w') {a:AV} {v:Value} (hr:dy P w D ι a v):dy P w' D' ι' a v:=hr.frame h.sa h.dead h.names
theorem ew {k n} {v:Value} (h:dy P w D ι (.int k n) v):v=.int k n:=by
 cases h with
 |fy _ _ h=>cases h;rfl
theorem gj {b} {v:Value} (h:dy P w D ι (.bool b) v):v=.bool b:=by
 cases h with
 |fy _ _ h=>cases h;rfl
theorem gM {s} {v:Value} (h:dy P w D ι (.str s) v):v=.string s:=by
 cases h with
 |fy _ _ h=>cases h;rfl
theorem lu {v:Value} (h:dy P w D ι .ck v):v=.slice none 0 0:=by
 cases h with
 |fy _ _ h=>cases h;rfl
theorem zm {v:Value} (h:dy P w D ι .jS v):v=.nilFunc:=by
 cases h with
 |fy _ _ h=>cases h;rfl
theorem jN {cs} {v:Value} (h:dy P w D ι (.agg cs) v):∃(vs:Array Value) (f:Nat->Value),v=.agg vs/\vs.size=cs.length/\(∀a∈cs,a.cell=true)/\(∀j,j<cs.length->vs[j]? =some (f j))/\∀j a,cs[j]? =some a->dy P w D ι a (f j):=by
 cases h with
 |fy _ _ h=>
  cases h with
  |agg cs vs f h1 h2 h3 h4=>exact⟨vs,f,rfl,h1,h2,h3,fun j a h=>.fy _ _ (h4 j a h)⟩
 |agg cs vs f h1 h2 h3 h4=>exact⟨vs,f,rfl,h1,h2,h3,h4⟩
theorem xS {cs} {v:Value} (h:dy P w D ι (.ib cs) v):∃(vs:Array Value) (f:Nat->Value),v=.tuple vs/\vs.size=cs.length/\(∀j,j<cs.length->vs[j]? =some (f j))/\∀j a,cs[j]? =some a->dy P w D ι a (f j):=by
 cases h with
 |fy _ _ h=>cases h
 |ib cs vs f h1 h2 h3=>exact⟨vs,f,rfl,h1,h2,h3⟩
theorem CF {f dG} {v:Value} (h:dy P w D ι (.fn f dG) v):∃(vs:Array Value) (g:Nat->Value),v=.func (.func f) #[] vs/\gT P f=true/\vs.size=dG.length/\(∀j,j<dG.length->vs[j]? =some (g j))/\∀j a,dG[j]? =some a->dy P w D ι a (g j):=by
 cases h with
 |fy _ _ h=>
  cases h with
  |fn f dG vs g h1 h2 h3 h4=>exact⟨vs,g,rfl,h1,h2,h3,fun j a h=>.fy _ _ (h4 j a h)⟩
 |fn f dG vs g h1 h2 h3 h4=>exact⟨vs,g,rfl,h1,h2,h3,h4⟩
theorem Mw {v:Value} (h:dy P w D ι .iZ v):v=.pointer none:=by
 cases h with
 |fy _ _ h=>cases h;rfl
theorem E0 {v:Value} (h:dy P w D ι .j6 v):v=.map none:=by
 cases h with
 |fy _ _ h=>cases h;rfl
theorem Ps {f dG} {v:Value} (h:dy P w D ι (.wR f dG) v):∃(vs:Array Value) (g:Nat->Value),v=.func (.func f) vs #[]/\gT P f=true/\vs.size=dG.length/\(∀j,j<dG.length->vs[j]? =some (g j))/\∀j a,dG[j]? =some a->dy P w D ι a (g j):=by
 cases h with
 |fy _ _ h=>cases h
 |wR f dG vs g h1 h2 h3 h4=>exact⟨vs,g,rfl,h1,h2,h3,h4⟩
theorem jO {id off len} {v:Value} (h:dy P w D ι (.own id off len) v):∃o cap B,v=.slice (some ⟨B.b,o,none⟩) len cap/\ι id=some B/\len<=cap/\(cap=0∨o=off*B.sz)/\(off+cap)*B.sz<=B.C/\cap<=maxLen/\B.k=none:=by
 cases h with
 |fy _ _ h=>cases h
 |own id off len o cap B h1 h2 h3 h4 h5 h6=>exact⟨o,cap,B,rfl,h1,h3,h4,h5,h6,h2⟩
theorem jy {id i off} {v:Value} (h:dy P w D ι (.ptr id i off) v):∃B,v=.pointer (some ⟨B.b,i*B.sz+off,none⟩)/\ι id=some B/\B.k=none:=by
 cases h with
 |fy _ _ h=>cases h
 |ptr id i off B h1 h2=>exact⟨B,rfl,h1,h2⟩
theorem Pq {id} {v:Value} (h:dy P w D ι (.tQ id) v):∃B c,v=.chan (some B.b)/\ι id=some B/\B.k=some (.chan c):=by
 cases h with
 |fy _ _ h=>cases h
 |tQ id c B h1 h2=>exact⟨B,c,rfl,h1,h2⟩
theorem H6 {id m} {v:Value} (h:dy P w D ι (.map id m) v):∃B,v=.map (some B.b)/\ι id=some B/\B.k=some (.map m):=by
 cases h with
 |fy _ _ h=>cases h
 |map id m B h1 h2=>exact⟨B,rfl,h1,h2⟩
theorem me {cs} {v:Value} (h:dy P w D ι (.dv cs) v):∃b o,∃vs:Nat->Value,v=.pointer (some ⟨b,o,none⟩)/\D b/\(∀a∈cs,a.cell=true)/\(∀j,j<cs.length->w.cell? ⟨b,o+j,none⟩=some (vs j))/\∀j a,cs[j]? =some a->ly P w D a (vs j):=by
 cases h with
 |fy _ _ h=>
  cases h with
  |dv cs b o vs h1 h2 h3 h4=>exact⟨b,o,vs,rfl,h1,h2,h3,h4⟩
theorem zo {rows} {v:Value} (h:dy P w D ι (.sl rows) v):∃A c,v=.slice A rows.length c/\rows.length<=c/\c<=maxLen/\
  (rows=[]∨∃b o sz,∃vs:Nat->Nat->Value,A=some ⟨b,o,none⟩/\D b/\(∀cs∈rows,cs.length=sz)/\(∀cs∈rows,∀a∈cs,a.cell=true)/\
   (∀i j,i<rows.length->j<sz->w.cell? ⟨b,o+(i*sz+j),none⟩=some (vs i j))/\∀i j cs a,rows[i]? =some cs->cs[j]? =some a->ly P w D a (vs i j)):=by
 cases h with
 |fy _ _ h=>
  cases h with
  |Db a c h=>exact⟨a,c,rfl,Nat.zero_le _,h,.inl rfl⟩
  |sl rows b o n c sz vs h1 h2 h3 h4 h5 h5' h6 h7=>subst h1;exact⟨_,c,rfl,h2,h3,.inr ⟨b,o,sz,vs,rfl,h4,h5,h5',h6,h7⟩⟩
inductive fB:AV->Prop
 |int (k n):fB (.int k n)
 |bool (b):fB (.bool b)
 |str (s):fB (.str s)
 |ck:fB .ck
 |iZ:fB .iZ
 |jS:fB .jS
 |sl (rows):rows.length<=maxLen->(∀cs∈rows,∀a∈cs,fB a)->fB (.sl rows)
 |own (id off len):fB (.own id off len)
 |ptr (id i off):fB (.ptr id i off)
 |dv (cs):(∀a∈cs,fB a)->fB (.dv cs)
 |agg (cs):(∀a∈cs,fB a)->fB (.agg cs)
 |ib (cs):(∀a∈cs,fB a)->fB (.ib cs)
 |fn (f dG):(∀a∈dG,fB a)->fB (.fn f dG)
 |map (id m):fB (.map id m)
 |tQ (id):fB (.tQ id)
 |j6:fB .j6
 |wR (f dG):(∀a∈dG,fB a)->fB (.wR f dG)
theorem fB.len {rows:List (List AV)} (h:fB (.sl rows)):rows.length<=9223372036854775807:=by
 cases h with
 |sl _ h _=>unfold maxLen at h;omega
theorem fB.QW {cs:List AV} (h:fB (.agg cs)) {a:AV} (ha:a∈cs):fB a:=by
 cases h with
 |agg _ h=>exact h a ha
theorem fB.Es {cs:List AV} (h:fB (.dv cs)) {a:AV} (ha:a∈cs):fB a:=by
 cases h with
 |dv _ h=>exact h a ha
theorem qJ {l:List AV} {p:AV->Prop} (h:∀(j:Nat) (a:AV),l[j]? =some a->p a):∀a∈l,p a:=fun a ha=>by
 obtain⟨j,hj,rfl⟩:=List.getElem_of_mem ha
 exact h j _ (List.getElem?_eq_getElem hj)
theorem ly.LX {a:AV} {v:Value} (h:ly P w D a v):fB a:=by
 induction h with
 |int k n=>exact .int k n
 |bool b=>exact .bool b
 |str s=>exact .str s
 |ck=>exact .ck
 |iZ=>exact .iZ
 |jS=>exact .jS
 |j6=>exact .j6
 |Db a c h=>exact .sl [] (Nat.zero_le _) (fun cs h=>by cases h)
 |sl rows b o n c sz vs h1 h2 h3 h4 h5 h5' h6 _ ih=>
  exact .sl rows ae fun cs eD a ha=>by
   obtain⟨i,hi,rfl⟩:=List.getElem_of_mem eD
   obtain⟨j,hj,rfl⟩:=List.getElem_of_mem ha
   exact ih i j _ _ (List.getElem?_eq_getElem hi) (List.getElem?_eq_getElem hj)
 |dv cs b o vs h1 Rm h2 _ ih=>exact .dv cs (qJ ih)
 |agg cs vs f h1 h2 h3 _ ih=>exact .agg cs (qJ ih)
 |fn f dG vs g h1 h2 h3 _ ih=>exact .fn f dG (qJ ih)
theorem dy.LX {a:AV} {v:Value} (h:dy P w D ι a v):fB a:=by
 induction h with
 |fy a v h=>exact h.LX
 |own id off len o cap B=>exact .own _ _ _
 |ptr id i off B=>exact .ptr _ _ _
 |map id m B=>exact .map _ _
 |tQ id c B=>exact .tQ _
 |agg cs vs f h1 h2 h3 _ ih=>exact .agg cs (qJ ih)
 |ib cs vs f h1 h2 _ ih=>exact .ib cs (qJ ih)
 |fn f dG vs g h1 h2 h3 _ ih=>exact .fn f dG (qJ ih)
 |wR f dG vs g h1 h2 h3 _ ih=>exact .wR f dG (qJ ih)
end Go.Proofs.YtiabgllilcfheaaGreat.V

namespace Go.Proofs.YtiabgllilcfheaaGreat.V
open Go.RowKit
variable {P:Program} {w w':World} {D D':Nat->Prop} {ι ι':Names}
def di (P:Program) (w:World) (D:Nat->Prop) (ι:Names) (env:Env) (a:Act):Prop:=∀t,dy P w D ι (env t) (a.tmps.getD t undef)
theorem uo {vs:List Value} {cs:List K} (h:vs.mapM Jn=some cs):cs.length=vs.length/\∀(j:Nat) (c:K),cs[j]? =some c->vs[j]? =some c.val:=by
 induction vs generalizing cs with
 |nil=>simp at h;subst h;simp
 |cons v r ih=>
  simp only[List.mapM_cons,Option.bind_eq_bind,Option.bind_eq_some_iff]at h
  obtain⟨c,hc,tU,eD,h⟩:=h
  simp at h;subst h
  obtain⟨h1,h2⟩:=ih eD
  refine⟨by simp[h1],fun j d hd=>?_⟩
  cases j with
  |zero=>simp at hd ⊢;subst hd;exact Ci hc
  |succ j=>simp at hd ⊢;exact h2 j d hd
theorem ZR {vs:List Value} {cs:List K} (h:vs.mapM Jn=some cs):dy P w D ι (.agg (cs.map K.av)) (.agg vs.toArray):=by
 obtain⟨h1,h2⟩:=uo h
 refine .agg _ _ (fun j=>vs.getD j undef) (by simp[h1]) (fun a ha=>?_) (fun j hj=>?_) (fun j a ha=>?_)
 ·obtain⟨c,_,rfl⟩:=List.mem_map.1 ha;exact c.oz
 ·simp at hj;simp[List.getElem?_eq_getElem (show j<vs.length by omega)]
 ·simp only[List.getElem?_map,Option.map_eq_some_iff]at ha
  obtain⟨c,hc,rfl⟩:=ha
  rw[List.getD_eq_getElem?_getD,h2 j c hc];exact zl c
theorem ek {env:Env} {a:Act} {x:Operand} {y:O} (E:di P w D ι env a) (h:cO P x=some y):dy P w D ι (du env y) (a.eval x):=by
 unfold cO at h
 split at h
 ·simp at h;subst h;exact E _
 ·simp only[Option.map_eq_some_iff]at h
  obtain⟨cs,eD,rfl⟩:=h
  have:=ZR (P:=P) (w:=w) (D:=D) (ι:=ι) eD
  simpa[Act.eval,du]using this
 ·simp only[Option.map_eq_some_iff]at h
  obtain⟨c,hc,rfl⟩:=h
  simp only[Act.eval,du]
  rw[Ci hc];exact zl c
 ·simp at h
 ·split at h
  ·rename_i hc
   simp at h;subst h
   simp only[Act.eval,du]
   exact .fn _ _ _ (fun _=>undef) hc rfl (fun j hj=>by simp at hj) (fun j a h=>by simp at h)
  ·simp at h
def qc (P:Program) (a:Act) (o:Oper) (w:World) (D:Nat->Prop) (ι:Names) (v:AV):Prop:=∃u,(execOp a.eval o).run P w=.ok (.value u) w/\dy P w D ι v u
section
variable {g:Rows} {hs:Nat} {env:Env} {a:Act} {o:Oper} {id:Id} {v:AV}
theorem QJ {x:Operand} {y:O} (E:di P w D ι env a) (ho:o.op=.move x∨o.op=.assign x) (hx:cO P x=some y):qc P a o w D ι (du env y):=by
 refine⟨a.eval x,?_,ek E hx⟩
 rcases ho with h|h<;>simp[execOp,h,go_sem]
theorem S3 {c x y:Operand} {c' x' y':O} (E:di P w D ι env a) (ho:o.op=.pick c x y) (hc:cO P c=some c') (hx:cO P x=some x') (hy:cO P y=some y') (hv:dc (du env c') (du env x') (du env y')=some v):qc P a o w D ι v:=by
 unfold dc at hv
 split at hv
 ·rename_i b hb
  simp at hv;subst hv
  have h1:=gj (hb▸ek E hc)
  refine⟨if b then a.eval x else a.eval y,by simp only[execOp,ho,h1,asBool];rfl,?_⟩
  cases b
  ·exact ek E hy
  ·exact ek E hx
 ·simp at hv
theorem WI {op:BinOp} {x y:Operand} {x' y':O} {t yt:TypeId} (E:di P w D ι env a) (ho:o.op=.binOp op t x y yt) (he:op≠.eql) (hn:op≠.neq) (hx:cO P x=some x') (hy:cO P y=some y') (hv:dX op (du env x') (du env y')=some v):qc P a o w D ι v:=by
 unfold dX at hv
 split at hv
 ·rename_i k n k' m hb vz
  split at hv
  ·rename_i hk
   subst hk
   have h1:=ew (hb▸ek E hx)
   have h2:=ew (vz▸ek E hy)
   have key:∀u,(binOp op t (.int k n) (.int k m)).run P w=.ok u w->(execOp a.eval o).run P w=.ok (.value u) w:=fun u hu=>by
    have e0:eqGuard op t x y (.int k n) (.int k m)=pure ():=by unfold eqGuard;cases op<;>rfl
    simp only[execOp,ho,h1,h2,e0]
    simp[go_sem,hu]
   cases op<;>simp only[dH]at hv<;>(try(simp at hv;done))<;>(try split at hv)<;>(try(simp at hv;done))<;>simp only[Option.some.injEq]at hv<;>subst hv<;>
    (refine⟨_,key _ (by simp only[binOp,ne_eq,not_true_eq_false,if_false,Op.intArith,Op.intDiv,Op.intBits,Op.intCmp, *];rfl),?_⟩)<;>
    first
     |exact .fy _ _ (.int _ _)
     |exact .fy _ _ (.bool _)
  ·simp at hv
 ·simp at hv
theorem SK {op:BinOp} {x y:Operand} {x' y':O} {t yt:TypeId} (E:di P w D ι env a) (ho:o.op=.binOp op t x y yt) (he:op≠.eql) (hn:op≠.neq) (hx:cO P x=some x') (hy:cO P y=some y') (hv:dd op (du env x') (du env y')=some v):qc P a o w D ι v:=by
 unfold dd at hv
 split at hv
 ·rename_i n m hb vz
  have h1:=gM (hb▸ek E hx)
  have h2:=gM (vz▸ek E hy)
  cases op<;>simp only[eh]at hv<;>(try(simp at hv;done))
  case add=>
   split at hv
   ·rename_i hl
    simp only[Option.some.injEq]at hv;subst hv
    exact⟨_,by simp only[execOp,ho,h1,h2];simp[eqGuard,binOp,go_sem];exact hl,.fy _ _ (.str _)⟩
   ·simp at hv
  all_goals
   simp only[Option.some.injEq]at hv;subst hv
   exact⟨_,by simp only[execOp,ho,h1,h2];simp[eqGuard,binOp,Op.stringOp,go_sem],.fy _ _ (.bool _)⟩
 ·simp at hv
theorem Ic (n m:ByteArray):(n.toList==m.toList)=decide (n=m):=by
 rw[ByteArray.toList_eq,ByteArray.toList_eq]
 by_cases h:n=m
 ·subst h;simp
 ·have:n.data.toList≠m.data.toList:=fun he=>h (ByteArray.ext (Array.ext' he))
  rw[decide_eq_false h];exact beq_eq_false_iff_ne.2 this
theorem rF {t:TypeId} (h:gC P t=some .tB):P.underlying t=some .bool:=by unfold gC at h;split at h<;>simp_all
theorem rH {t:TypeId} (h:gC P t=some .tI):∃k,P.underlying t=some (.int k):=by unfold gC at h;split at h<;>simp_all
theorem rI {t:TypeId} (h:gC P t=some .tS):P.underlying t=some .string:=by unfold gC at h;split at h<;>simp_all
theorem uA {d:Nat} {t:TypeId} {s:TS} {x y:AV} {u u':Value} {b:Bool} (hx:dy P w D ι x u) (hy:dy P w D ι y u') (hv:fJ s x y=some b) (ht:gC P t=some s):(Op.equalIn (d+1) t u u').run P w=.ok b w:=by
 unfold fJ at hv
 split at hv
 ·rename_i k n k' m
  split at hv
  ·rename_i hk
   subst hk
   simp at hv;subst hv
   obtain⟨q,hq⟩:=rH ht
   rw[ew hx,ew hy,run_equalIn_int _ _ _ _ _ _ _ hq];rfl
  ·simp at hv
 ·simp at hv;subst hv
  rw[gj hx,gj hy,run_equalIn_bool' _ _ _ _ _ (rF ht)]
 ·simp at hv;subst hv
  rw[gM hx,gM hy,run_equalIn_string _ _ _ _ _ (rI ht),Ic]
 ·simp at hv
def gy (P:Program) (w:World) (D:Nat->Prop) (ι:Names) (xs:List AV) (vs:Array Value):Prop:=vs.size=xs.length/\∀(j:Nat) (a:AV),xs[j]? =some a->∃u,vs[j]? =some u/\dy P w D ι a u
theorem gy.part {xs:List AV} {vs:Array Value} (h:gy P w D ι xs vs) (off n:Nat) (hn:off+n<=xs.length):gy P w D ι ((xs.drop off).take n) (vs.extract off (off+n)):=by
 refine⟨by simp[h.1];omega,fun j a ha=>?_⟩
 rw[List.getElem?_take]at ha
 split at ha
 ·rename_i hj
  rw[List.getElem?_drop]at ha
  obtain⟨u,h1,h2⟩:=h.2 _ _ ha
  refine⟨u,?_,h2⟩
  rw[Array.getElem?_extract]
  rw[if_pos (by rw[h.1];omega),h1]
 ·simp at ha
theorem tW:∀{ts:List TS} {xs ys:List AV} {b:Bool},fa ts xs ys=some b->xs.length=ts.length/\ys.length=ts.length
 |[],[],[],_,_=>⟨rfl,rfl⟩
 |t::ts,x::xs,y::ys,b,h=>by
  unfold fa at h
  split at h
  ·rename_i c d h1 h2
   have:=tW h2
   simp[this.1,this.2]
  ·simp at h
 |[],[],_::_,_,h=>by simp[fa]at h
 |[],_::_,_,_,h=>by simp[fa]at h
 |_::_,[],_,_,h=>by simp[fa]at h
 |_::_,_::_,[],_,h=>by simp[fa]at h
theorem Hv:∀{ts us:List TS} {xs ys:List AV} {b:Bool},fa (ts++us) xs ys=some b->∃c d,fa ts (xs.take ts.length) (ys.take ts.length)=some c/\fa us (xs.drop ts.length) (ys.drop ts.length)=some d/\b=(c&&d)
 |[],us,xs,ys,b,h=>⟨true,b,by simp[fa],by simpa using h,by simp⟩
 |t::ts,us,x::xs,y::ys,b,h=>by
  simp only[List.cons_append]at h
  unfold fa at h
  split at h
  ·rename_i c d h1 h2
   obtain⟨c',d',h3,h4,rfl⟩:=Hv h2
   simp at h;subst h
   exact⟨c&&c',d',by simp[fa,h1,h3],by simpa using h4,by simp[Bool.and_assoc]⟩
  ·simp at h
 |t::ts,us,[],ys,b,h=>by simp[fa]at h
 |t::ts,us,x::xs,[],b,h=>by simp[fa]at h
theorem nW {t:TypeId} {vs:Array Value} {off:Nat} {u:Value} (ha:pH P t=some false) (hu:vs[off]? =some u):(Go.part t vs off).run P w=.ok u w:=by
 unfold pH at ha
 have hi:(isAgg t).run P w=.ok false w:=by
  split at ha<;>simp at ha
  rename_i d h1 h2 hd
  simp only[isAgg,Sem.run_bind,run_underlying hd,Result.andThen_ok]
  cases d<;>simp_all
 simp[Go.part,hi,hu]
theorem vV {t:TypeId} {b:Bool} (ha:pH P t=some b):(isAgg t).run P w=.ok b w:=by
 unfold pH at ha
 split at ha<;>simp at ha<;>subst ha<;>rename_i hd<;>simp only[isAgg,Sem.run_bind,run_underlying hd,Result.andThen_ok]<;>(try simp)
theorem run_sizeOf {t:TypeId} {n:Nat} (h:eX P t=some n):(sizeOf t).run P w=.ok n w:=by
 unfold eX at h
 simp only[Option.map_eq_some_iff]at h
 obtain⟨i,hi,rfl⟩:=h
 simp[sizeOf,typeInfo,hi]
theorem rD {t:TypeId} {vs:Array Value} {off n:Nat} (ha:pH P t=some true) (hn:eX P t=some n):(Go.part t vs off).run P w=.ok (.agg (vs.extract off (off+n))) w:=by
 simp[Go.part,vV ha,run_sizeOf hn]
theorem K8 (d off:Nat):fq P (d+1) off []=some []:=rfl
theorem AD (d off:Nat) (f:Field) (r:List Field):fq P (d+1) off (f::r)=(if f.offset=off/\f.name≠ "_" then
   match gC P f.type with
   |some t=>if pH P f.type=some false then(fq P (d+1) (off+1) r).map (t::·)else none
   |none=>match P.underlying f.type with
    |some (.struct fs)=>if !P.stoodInHeld f.type then match fq P d 0 fs.toList with
     |some ts=>if eX P f.type=some ts.length/\ts≠[]then(fq P (d+1) (off+ts.length) r).map (ts++·)else none
     |none=>none else none
    |_=>none
  else none):=rfl
theorem uz:∀(d:Nat) (fs:List Field) (off:Nat) (ts:List TS),fq P d off fs=some ts->∀(N:Nat) (_:d<=N) (xs ys:List AV) (vs us:Array Value) (b:Bool),gy P w D ι xs vs->gy P w D ι ys us->
  fa ts ((xs.drop off).take ts.length) ((ys.drop off).take ts.length)=some b->(Op.eqFields (N+1) vs us fs).run P w=.ok b w:=by
 intro d
 induction d with
 |zero=>
  intro fs off ts hf N _ xs ys vs us b _ _ he
  cases fs with
  |nil=>simp[fq]at hf;subst hf;simp[fa]at he;subst he;simp[Op.eqFields]
  |cons f r=>simp[fq]at hf
 |succ d ihd=>
  intro fs
  induction fs with
  |nil=>
   intro off ts hf N _ xs ys vs us b _ _ he
   rw[K8]at hf;simp at hf;subst hf;simp[fa]at he;subst he;simp[Op.eqFields]
  |cons f r ih=>
   intro off ts hf N hN xs ys vs us b hx hy he
   rw[AD]at hf
   split at hf
   ·rename_i hcond
    obtain⟨ho,iN⟩:=hcond
    split at hf
    ·rename_i s hs
     split at hf
     ·rename_i xH
      simp only[Option.map_eq_some_iff]at hf
      obtain⟨QE,hr,rfl⟩:=hf
      obtain⟨l1,l2⟩:=tW he
      simp only[List.length_cons,List.length_take,List.length_drop]at l1 l2
      have xn:off<xs.length:=ae
      have hyo:off<ys.length:=ae
      rw[List.drop_eq_getElem_cons xn,List.drop_eq_getElem_cons hyo,List.length_cons,List.take_succ_cons,List.take_succ_cons]at he
      unfold fa at he
      split at he
      ·rename_i c d' h1 h2
       simp at he;subst he
       obtain⟨u,hu,ru⟩:=hx.2 off _ (List.getElem?_eq_getElem xn)
       obtain⟨u',HM,ru'⟩:=hy.2 off _ (List.getElem?_eq_getElem hyo)
       have:=ih (off+1) QE hr N hN xs ys vs us d' hx hy h2
       simp only[Op.eqFields,if_pos iN,Sem.run_bind,ho,nW xH hu,nW xH HM,Result.andThen_ok,uA ru ru' h1 hs,Sem.run_ite]
       cases c<;>simp[this]
      ·simp at he
     ·simp at hf
    ·split at hf
     ·rename_i fs' ua
      split at hf
      ·rename_i ev
       split at hf
       ·rename_i ts1 hts1
        split at hf
        ·rename_i e9
         simp only[Option.map_eq_some_iff]at hf
         obtain⟨QE,hr,rfl⟩:=hf
         obtain⟨c,d',h1,h2,rfl⟩:=Hv he
         obtain⟨l1,l2⟩:=tW he
         simp only[List.length_append,List.length_take,List.length_drop]at l1 l2
         have xH:pH P f.type=some true:=by simp[pH,ua]
         have lH:0<ts1.length:=List.length_pos_iff.2 e9.2
         have Ko:off+ts1.length<=xs.length:=ae
         have hy1:off+ts1.length<=ys.length:=ae
         rw[List.drop_take,List.drop_drop,List.drop_take,List.drop_drop]at h2
         rw[List.take_take,List.take_take]at h1
         simp only[List.length_append]at h1 h2
         rw[Nat.min_eq_left ae]at h1
         have e2:ts1.length+QE.length-ts1.length=QE.length:=ae
         rw[e2]at h2
         have:=ih (off+ts1.length) QE hr N hN xs ys vs us d' hx hy h2
         have fU:=ihd fs'.toList 0 ts1 hts1 (N-1) ae _ _ _ _ c (hx.part off ts1.length Ko) (hy.part off ts1.length hy1) (by simpa[List.take_take]using h1)
         have hN':N-1+1=N:=ae
         rw[hN']at fU
         have Lp:P.fieldsOf f.type=fs':=by simp[Program.fieldsOf,ua]
         simp only[Op.eqFields,if_pos iN,Sem.run_bind,ho,rD xH e9.1,Result.andThen_ok,Sem.run_ite]
         rw[run_equalIn_struct w N f.type _ _ (by rw[Lp];exact ua) (by simpa using ev),Lp,fU]
         cases c<;>simp[this]
        ·simp at hf
       ·simp at hf
      ·simp at hf
     ·simp at hf
   ·simp at hf
theorem WM {x y:Operand} {x' y':O} {t yt:TypeId} {neg:Bool} {s:TS} {b:Bool} (E:di P w D ι env a) (ho:o.op=.binOp (if neg then .neq else .eql) t x y yt) (hs:gC P t=some s) (hx:cO P x=some x') (hy:cO P y=some y')
  (hv:fJ s (du env x') (du env y')=some b):qc P a o w D ι (.bool (dw neg b)):=by
 have rx:=ek E hx
 have ry:=ek E hy
 refine⟨.bool (dw neg b),?_,.fy _ _ (.bool _)⟩
 have e0:(eqGuard (if neg then .neq else .eql) t x y (a.eval x) (a.eval y)).run P w=.ok () w:=by
  unfold fJ at hv
  split at hv
  ·rename_i k n k' m h1 h2
   rw[h1]at rx;rw[h2]at ry
   rw[ew rx,ew ry];unfold eqGuard;cases neg<;>simp
  ·rename_i n m h1 h2
   rw[h1]at rx;rw[h2]at ry
   rw[gj rx,gj ry];unfold eqGuard;cases neg<;>simp
  ·rename_i n m h1 h2
   rw[h1]at rx;rw[h2]at ry
   rw[gM rx,gM ry];unfold eqGuard;cases neg<;>simp
  ·simp at hv
 have e1:(binOp (if neg then .neq else .eql) t (a.eval x) (a.eval y)).run P w=.ok (.bool (dw neg b)) w:=by
  have q:=uA (d:=9999) rx ry hv hs
  unfold fJ at hv
  split at hv
  ·rename_i k n k' m h1 h2
   split at hv
   ·rename_i hk
    subst hk
    simp at hv;subst hv
    rw[h1]at rx;rw[h2]at ry
    rw[ew rx,ew ry]
    cases neg<;>simp only[binOp,ne_eq,not_true_eq_false,if_false,Op.intCmp,dw,if_true,Bool.false_eq_true]<;>simp[bne]<;>rfl
   ·simp at hv
  ·rename_i n m h1 h2
   rw[h1]at rx;rw[h2]at ry
   rw[gj rx,gj ry]at q ⊢
   cases neg<;>simp only[binOp,dw,if_true,Bool.false_eq_true,if_false,Sem.run_bind]<;>simp[Op.equal,Op.maxDepth,q]
  ·rename_i n m h1 h2
   simp at hv;subst hv
   rw[h1]at rx;rw[h2]at ry
   rw[gM rx,gM ry]
   cases neg<;>simp[binOp,Op.stringOp,dw,Ic]
  ·simp at hv
 simp only[execOp,ho,Sem.run_bind,e0,e1,Result.andThen_ok,Sem.run_pure]
theorem WK {x y:Operand} {x' y':O} {t yt:TypeId} {neg:Bool} {ts:List TS} {fs:Array Field} {xs ys:List AV} {b:Bool} (E:di P w D ι env a) (ho:o.op=.binOp (if neg then .neq else .eql) t x y yt) (ua:P.underlying t=some (.struct fs)) (ev:P.stoodInHeld t=false) (Ow:P.eqGuardType P.depth t=false)
  (z8:fq P 4 0 fs.toList=some ts) (hx:cO P x=some x') (hy:cO P y=some y') (h1:du env x'=.agg xs) (h2:du env y'=.agg ys)
  (hv:fa ts xs ys=some b):qc P a o w D ι (.bool (dw neg b)):=by
 obtain⟨vs,f,rx,n1,_,f1,r1⟩:=jN (h1▸ek E hx)
 obtain⟨us,f',ry,n2,_,f2,r2⟩:=jN (h2▸ek E hy)
 refine⟨.bool (dw neg b),?_,.fy _ _ (.bool _)⟩
 obtain⟨l1,l2⟩:=tW hv
 have L:∀(xs:List AV) (vs:Array Value) (f:Nat->Value),vs.size=xs.length->(∀j,j<xs.length->vs[j]? =some (f j))->(∀j a,xs[j]? =some a->dy P w D ι a (f j))->gy P w D ι xs vs:=fun xs vs f h1 h2 h3=>
  ⟨h1,fun j a ha=>⟨f j,h2 j (List.getElem?_eq_some_iff.1 ha).1,h3 j a ha⟩⟩
 have q:=uz (w:=w) 4 fs.toList 0 ts z8 9998 ae xs ys vs us b (L _ _ _ n1 f1 r1) (L _ _ _ n2 f2 r2) (by simpa[List.take_of_length_le,l1,l2]using hv)
 have Lp:P.fieldsOf t=fs:=by simp[Program.fieldsOf,ua]
 have q2:(Op.equal t (.agg vs) (.agg us)).run P w=.ok b w:=by
  unfold Op.equal
  rw[show Op.maxDepth=9999+1 from rfl,run_equalIn_struct w 9999 t _ _ (by rw[Lp];exact ua) ev,Lp,q]
 simp only[execOp,ho,Sem.run_bind,rx,ry,run_eqGuard_agg w _ _ _ _ _ _ Ow,Result.andThen_ok]
 cases neg<;>simp[binOp,q2,dw]
theorem SN {x:Operand} {x':O} {t yt e:TypeId} {neg:Bool} {b:Bool} (E:di P w D ι env a) (ho:o.op=.binOp (if neg then .neq else .eql) t x (.const (.slice none 0 0)) yt) (ht:P.underlying t=some (.slice e)) (hx:cO P x=some x')
  (hv:db (du env x')=some b):qc P a o w D ι (.bool (dw neg b)):=by
 have hr:=ek E hx
 have rx:∃A n c,a.eval x=.slice A n c/\b=A.isNone:=by
  unfold db at hv
  split at hv<;>simp at hv<;>subst hv<;>rename_i hh
  ·rw[hh]at hr;exact⟨_,_,_,lu hr,rfl⟩
  ·rw[hh]at hr;obtain⟨o,cap,B,h,_⟩:=jO hr
   exact⟨_,_,_,h,rfl⟩
  ·rw[hh]at hr
   obtain⟨A,c,h',_,_,h⟩:=zo hr
   rcases h with h|⟨b,o,sz,vs,rfl,_⟩
   ·simp at h
   ·exact⟨_,_,_,h',rfl⟩
 refine⟨.bool (dw neg b),?_,.fy _ _ (.bool _)⟩
 obtain⟨A,n,c,h,rfl⟩:=rx
 have hq:(Op.equal t (.slice A n c) (.slice none 0 0)).run P w=.ok A.isNone w:=by
  unfold Op.equal
  rw[show Op.maxDepth=9999+1 from rfl,Op.equalIn]
  simp only[Sem.run_bind,run_underlying ht,Result.andThen_ok]
  cases A<;>rfl
 have hc:a.eval (.const (.slice none 0 0))=.slice none 0 0:=rfl
 simp only[execOp,ho,h,hc]
 cases neg<;>simp only[Bool.false_eq_true,if_false,if_true,Bool.not_true,Bool.not_false,eqGuard,binOp,dw,Sem.run_bind,hq,Result.andThen_ok,Sem.run_pure]
theorem WL {x:Operand} {x':O} {t yt e:TypeId} {neg:Bool} {b:Bool} (E:di P w D ι env a) (ho:o.op=.binOp (if neg then .neq else .eql) t x (.const (.pointer none)) yt) (ht:P.underlying t=some (.pointer e)) (hx:cO P x=some x')
  (hv:MX (du env x')=some b):qc P a o w D ι (.bool (dw neg b)):=by
 have hr:=ek E hx
 have rx:∃A,a.eval x=.pointer A/\b=A.isNone:=by
  unfold MX at hv
  split at hv<;>simp at hv<;>subst hv<;>rename_i hh
  ·rw[hh]at hr;exact⟨_,Mw hr,rfl⟩
  ·rw[hh]at hr;obtain⟨B,h,_⟩:=jy hr
   exact⟨_,h,rfl⟩
  ·rw[hh]at hr;obtain⟨_,_,_,h,_⟩:=me hr
   exact⟨_,h,rfl⟩
 refine⟨.bool (dw neg b),?_,.fy _ _ (.bool _)⟩
 obtain⟨A,h,rfl⟩:=rx
 have hq:(Op.equal t (.pointer A) (.pointer none)).run P w=.ok A.isNone w:=by
  unfold Op.equal
  rw[show Op.maxDepth=9999+1 from rfl,Op.equalIn]
  simp only[Sem.run_bind,run_underlying ht,Result.andThen_ok]
  cases A<;>rfl
 have hc:a.eval (.const (.pointer none))=.pointer none:=rfl
 simp only[execOp,ho,h,hc]
 cases neg<;>simp only[Bool.false_eq_true,if_false,if_true,Bool.not_true,Bool.not_false,eqGuard,binOp,dw,Sem.run_bind,hq,Result.andThen_ok,Sem.run_pure]
theorem SM {x:Operand} {x':O} {t yt:TypeId} {p r:Array TypeId} {va:Bool} {neg:Bool} {b:Bool} (E:di P w D ι env a) (ho:o.op=.binOp (if neg then .neq else .eql) t x (.const .nilFunc) yt) (ht:P.underlying t=some (.func p r va)) (hx:cO P x=some x')
  (hv:da (du env x')=some b):qc P a o w D ι (.bool (dw neg b)):=by
 have hr:=ek E hx
 have rx:a.eval x=.nilFunc/\b=true∨∃f c,a.eval x=.func f #[] c/\b=false:=by
  unfold da at hv
  split at hv<;>simp at hv<;>subst hv<;>rename_i hh
  ·rw[hh]at hr;exact .inl ⟨zm hr,rfl⟩
  ·rw[hh]at hr;obtain⟨vs,g,h,_⟩:=CF hr
   exact .inr ⟨_,_,h,rfl⟩
 refine⟨.bool (dw neg b),?_,.fy _ _ (.bool _)⟩
 have hc:a.eval (.const .nilFunc)=.nilFunc:=rfl
 rcases rx with⟨h,rfl⟩|⟨f,c,h,rfl⟩
 ·have hq:(Op.equal t .nilFunc .nilFunc).run P w=.ok true w:=by
   unfold Op.equal
   rw[show Op.maxDepth=9999+1 from rfl,Op.equalIn]
   simp only[Sem.run_bind,run_underlying ht,Result.andThen_ok]
   rfl
  simp only[execOp,ho,h,hc]
  cases neg<;>simp only[Bool.false_eq_true,if_false,if_true,Bool.not_true,Bool.not_false,eqGuard,binOp,dw,Sem.run_bind,hq,Result.andThen_ok,Sem.run_pure]
 ·have hq:(Op.equal t (.func f #[] c) .nilFunc).run P w=.ok false w:=by
   unfold Op.equal
   rw[show Op.maxDepth=9999+1 from rfl,Op.equalIn]
   simp only[Sem.run_bind,run_underlying ht,Result.andThen_ok]
   rfl
  simp only[execOp,ho,h,hc]
  cases neg<;>simp only[Bool.false_eq_true,if_false,if_true,Bool.not_true,Bool.not_false,eqGuard,binOp,dw,Sem.run_bind,hq,Result.andThen_ok,Sem.run_pure]
theorem WQ {x:Operand} {x':O} {t:TypeId} (E:di P w D ι env a) (ho:o.op=.unOp .not t x) (hx:cO P x=some x') (hv:eb (du env x')=some v):qc P a o w D ι v:=by
 have hr:=ek E hx
 unfold eb at hv
 split at hv
 ·rename_i b hb
  simp at hv;subst hv
  rw[hb]at hr
  exact⟨_,by simp only[execOp,ho,gj hr];rfl,.fy _ _ (.bool _)⟩
 ·simp at hv
theorem WO {x:Operand} {x':O} {t:TypeId} (E:di P w D ι env a) (ho:o.op=.unOp .neg t x) (hx:cO P x=some x') (hv:dZ (du env x')=some v):qc P a o w D ι v:=by
 have hr:=ek E hx
 unfold dZ at hv
 split at hv
 ·rename_i k n hb
  simp at hv;subst hv
  rw[hb]at hr
  refine⟨_,by simp only[execOp,ho,ew hr];rfl,?_⟩
  rw[Int.zero_sub];exact .fy _ _ (.int _ _)
 ·simp at hv
theorem SL {x:Operand} {x':O} {s d:TypeId} {k q:IntKind} (E:di P w D ι env a) (ho:o.op=.convert s d x) (hs:P.underlying s=some (.int q)) (hd:P.underlying d=some (.int k)) (hx:cO P x=some x') (hv:cR k (du env x')=some v):qc P a o w D ι v:=by
 have hr:=ek E hx
 unfold cR at hv
 split at hv
 ·rename_i k' n hb
  simp at hv;subst hv
  rw[hb]at hr
  refine⟨.int k (k.wrap n),?_,.fy _ _ (.int _ _)⟩
  simp only[execOp,ho,ew hr,convert,Sem.run_bind,run_underlying hs,run_underlying hd,Result.andThen_ok,Conv.intToInt,Sem.run_pure]
 ·simp at hv
theorem PH {x:Operand} {x':O} {s:TypeId} {i:Nat} {fs:Array Field} {f:Field} {m:Nat} (E:di P w D ι env a) (ho:o.op=.fieldAddr s x i) (hs:P.underlying s=some (.struct fs)) (hf:fs[i]? =some f) (hm:eX P f.type=some (m+1)) (hx:cO P x=some x')
  (hv:G5 f.offset (du env x')=some v):qc P a o w D ι v:=by
 have hr:=ek E hx
 have go:∀b oo,a.eval x=.pointer (some ⟨b,oo,none⟩)->(execOp a.eval o).run P w=.ok (.value (.pointer (some ⟨b,oo+f.offset,none⟩))) w:=fun b oo h=>by
  simp only[execOp,ho,h,Instr.fieldAt,Sem.run_bind,run_underlying hs,Result.andThen_ok,hf,Instr.sureAddr,Sem.run_pure,fieldPlace,run_sizeOf hm,Nat.add_eq_zero_iff,Nat.one_ne_zero,and_false,if_false,Addr.add]
  split
  ·rename_i h0;simp[h0]
  ·rfl
 unfold G5 at hv
 split at hv
 ·rename_i kV i' oo hb
  simp at hv;subst hv
  rw[hb]at hr
  obtain⟨B,h,hB,hk⟩:=jy hr
  refine⟨_,go _ _ h,?_⟩
  rw[Nat.add_assoc]
  exact .ptr _ _ _ _ hB hk
 ·rename_i cs hb
  simp at hv;subst hv
  rw[hb]at hr
  obtain⟨b,oo,vs,h,h1,h2,h3,h4⟩:=me hr
  refine⟨_,go _ _ h,.fy _ _ (.dv _ _ _ (fun j=>vs (f.offset+j)) h1 (fun a ha=>h2 a (List.mem_of_mem_drop ha)) (fun j hj=>?_) (fun j a ha=>h4 _ _ (by simpa using ha)))⟩
  rw[Nat.add_assoc]
  exact h3 _ (by simp at hj;omega)
 ·simp at hv
theorem PI {x:Operand} {x':O} {s:TypeId} {i n:Nat} {ag:Bool} {fs:Array Field} {f:Field} (E:di P w D ι env a) (ho:o.op=.field s x i) (hs:P.underlying s=some (.struct fs)) (hf:fs[i]? =some f) (xH:pH P f.type=some ag) (hm:eX P f.type=some n) (hx:cO P x=some x')
  (hv:bQ ag f.offset n (du env x')=some v):qc P a o w D ι v:=by
 have hr:=ek E hx
 unfold bQ at hv
 split at hv
 ·rename_i cs hb
  split at hv
  ·rename_i hl
   rw[hb]at hr
   obtain⟨vs,g,h,n1,fl,f1,r1⟩:=jN hr
   unfold part at hv
   cases ag with
   |true=>
    simp only[if_true]at hv
    split at hv
    ·simp at hv;subst hv
     refine⟨.agg (vs.extract f.offset (f.offset+n)),?_,.agg _ _ (fun j=>g (f.offset+j)) (by simp[n1];omega) (fun a ha=>fl a (List.mem_of_mem_drop (List.mem_of_mem_take ha))) (fun j hj=>?_) (fun j a ha=>?_)⟩
     ·simp only[execOp,ho,h,Instr.field,Sem.run_bind,run_underlying hs,Result.andThen_ok,hf,asAgg,Sem.run_pure,rD xH hm]
     ·simp at hj
      rw[Array.getElem?_extract,if_pos ae];exact f1 _ ae
     ·rw[List.getElem?_take]at ha
      split at ha
      ·exact r1 _ _ (by simpa using ha)
      ·simp at ha
    ·simp at hv
   |false=>
    simp only[Bool.false_eq_true,if_false]at hv
    have pM:cs[f.offset]? =some v:=by simpa[List.head?_drop]using hv
    have eM:=(List.getElem?_eq_some_iff.1 pM).1
    exact⟨g f.offset,by simp only[execOp,ho,h,Instr.field,Sem.run_bind,run_underlying hs,Result.andThen_ok,hf,asAgg,Sem.run_pure,nW xH (f1 _ eM)],r1 _ _ pM⟩
  ·simp at hv
 ·simp at hv
theorem WR {left:Bool} {x y:Operand} {x' y':O} {t yt:TypeId} (E:di P w D ι env a) (ho:o.op=.binOp (if left then .shl else .shr) t x y yt) (hx:cO P x=some x') (hy:cO P y=some y') (hv:gG left (du env x') (du env y')=some v):qc P a o w D ι v:=by
 unfold gG at hv
 split at hv
 ·rename_i k n k' m hb vz
  split at hv
  ·simp at hv
  ·rename_i hm
   simp at hv;subst hv
   have h1:=ew (hb▸ek E hx)
   have h2:=ew (vz▸ek E hy)
   refine⟨_,?_,.fy _ _ (.int _ _)⟩
   simp only[execOp,ho,h1,h2]
   cases left<;>simp only[Bool.false_eq_true,if_false,if_true,eqGuard,Bool.not_true,Bool.not_false,binOp,Op.shift,hm,Sem.run_bind,Sem.run_pure,Result.andThen_ok]<;>rfl
 ·simp at hv
end
end Go.Proofs.YtiabgllilcfheaaGreat.V

namespace Go.Proofs.YtiabgllilcfheaaGreat.V
open Go.RowKit
variable {P:Program} {w w':World} {D D':Nat->Prop} {ι ι':Names}
theorem lE (b o j:Nat):(⟨b,o,none⟩:Addr).add j=⟨b,o+j,none⟩:=by unfold Addr.add;split<;>simp_all
section
variable {g:Rows} {hs:Nat} {env:Env} {a:Act} {o:Oper} {id:Id} {v:AV}
theorem lN {t:TypeId} {ag:Bool} {n b oo:Nat} {cs:List AV} {v:AV} {f:Nat->Value} (xH:pH P t=some ag) (hn:eX P t=some n) (hp:part ag n cs=some v) (fl:∀a∈cs,a.cell=true)
  (hc:∀j,j<cs.length->w.cell? ⟨b,oo+j,none⟩=some (f j)) (hr:∀j a,cs[j]? =some a->dy P w D ι a (f j)):∃u,(loadVar t ⟨b,oo,none⟩).run P w=.ok u w/\dy P w D ι v u:=by
 unfold part at hp
 cases ag with
 |true=>
  simp only[if_true]at hp
  split at hp
  ·rename_i hl
   simp at hp;subst hp
   refine⟨.agg ((List.range n).map f).toArray,?_,.agg _ _ f (by simp;omega) (fun a ha=>fl a (List.mem_of_mem_take ha)) (fun j hj=>?_) (fun j a ha=>?_)⟩
   ·simp only[loadVar,Sem.run_bind,vV xH,Result.andThen_ok,if_true,run_sizeOf hn,Sem.run_pure]
    rw[run_loadCells w _ n f (fun j hj=>by rw[lE];exact hc j ae)]
    rfl
   ·simp at hj
    have:j<n:=ae
    simp[this]
   ·rw[List.getElem?_take]at ha
    split at ha
    ·exact hr _ _ ha
    ·simp at ha
  ·simp at hp
 |false=>
  simp only[Bool.false_eq_true,if_false]at hp
  cases cs with
  |nil=>simp at hp
  |cons c r=>
   simp at hp;subst hp
   refine⟨f 0,?_,hr 0 _ rfl⟩
   simp only[loadVar,Sem.run_bind,vV xH,Result.andThen_ok,Bool.false_eq_true,if_false]
   have:=hc 0 (by simp)
   simp at this
   rw[run_load,this]
theorem MG {S:iD P hs D ι g w} {i:Nat} {cs:List AV} (h:rowAt g id i=some cs) (hk:∀B,ι id=some B->B.k=none):∃B r,g id=some r/\ι id=some B/\mN P w D ι B r/\r.rows[i]? =some cs/\(∀a∈cs,a.cell=true)/\∃f:Nat->Value,∀j,j<cs.length->w.cell? ⟨B.b,i*B.sz+j,none⟩=some (f j)/\∀a,cs[j]? =some a->dy P w D ι a (f j):=by
 unfold rowAt at h
 simp only[Option.bind_eq_some_iff]at h
 obtain⟨r,hr,hi⟩:=h
 obtain⟨B,hB,R,_,_⟩:=S.row id r hr
 replace R:=R.row (hk B hB)
 refine⟨B,r,hr,hB,R,hi,R.flat cs (List.mem_of_getElem? hi),fun j=>(w.cell? ⟨B.b,i*B.sz+j,none⟩).getD undef,fun j hj=>?_⟩
 obtain⟨u,hu,z7⟩:=R.at_ i j cs _ hi (List.getElem?_eq_getElem hj)
 rw[R.sz,hu]
 refine⟨by simp only[hu,Option.getD_some],fun a ha=>?_⟩
 rw[List.getElem?_eq_getElem hj]at ha
 injection ha with ha
 subst ha
 simpa only[hu,Option.getD_some]using z7
theorem SU {x:Operand} {x':O} {t:TypeId} {ag:Bool} {n:Nat} (S:iD P hs D ι g w) (E:di P w D ι env a) (ho:o.op=.load t x) (xH:pH P t=some ag) (hn:eX P t=some n) (hx:cO P x=some x') (hv:ld g ag n (du env x')=some v):qc P a o w D ι v:=by
 have hr:=ek E hx
 have go:∀b oo u,a.eval x=.pointer (some ⟨b,oo,none⟩)->(loadVar t ⟨b,oo,none⟩).run P w=.ok u w->(execOp a.eval o).run P w=.ok (.value u) w:=fun b oo u h h2=>by
  simp only[execOp,ho,h,Instr.loadAt,Instr.sureAddr,Sem.run_bind,Sem.run_pure,Result.andThen_ok,h2]
 unfold ld at hv
 split at hv
 ·rename_i kV i' oo hb
  rw[hb]at hr
  obtain⟨B,h,hB,hk⟩:=jy hr
  simp only[Option.bind_eq_some_iff]at hv
  obtain⟨cs,eD,hp⟩:=hv
  obtain⟨B',r,AL,eG,R,hi,fl,f,hf⟩:=MG (S:=S) eD (fun B2 h2=>by rw[hB]at h2;injection h2 with h2;subst h2;exact hk)
  rw[hB]at eG;injection eG with eG;subst eG
  obtain⟨u,h1,h2⟩:=lN (w:=w) (b:=B.b) (oo:=i'*B.sz+oo) (f:=fun j=>f (oo+j)) xH hn hp (fun a ha=>fl a (List.mem_of_mem_drop ha)) (fun j hj=>by
   rw[Nat.add_assoc];exact(hf _ (by simp at hj;omega)).1) (fun j a ha=>by
   simp at ha;exact(hf _ ((List.getElem?_eq_some_iff.1 ha).1)).2 _ ha)
  exact⟨u,go _ _ _ h h1,h2⟩
 ·rename_i cs hb
  rw[hb]at hr
  obtain⟨b,oo,vs,h,h1,h2,h3,h4⟩:=me hr
  obtain⟨u,k1,k2⟩:=lN (w:=w) (b:=b) (oo:=oo) (f:=vs) xH hn hv h2 h3 (fun j a ha=>.fy _ _ (h4 j a ha))
  exact⟨u,go _ _ _ h k1,k2⟩
 ·simp at hv
theorem WJ {x:Operand} {x':O} (E:di P w D ι env a) (ho:o.op=.nilCheck x) (hx:cO P x=some x') (hv:dY (du env x')=some v):qc P a o w D ι v:=by
 have hr:=ek E hx
 unfold dY at hv
 split at hv
 ·rename_i kV i' oo hb
  simp at hv;subst hv
  rw[hb]at hr
  obtain⟨B,h,hB,hk⟩:=jy hr
  exact⟨_,by simp only[execOp,ho,h];rfl,.ptr _ _ _ _ hB hk⟩
 ·rename_i cs hb
  simp at hv;subst hv
  rw[hb]at hr
  obtain⟨b,oo,vs,h,_⟩:=me hr
  exact⟨_,by simp only[execOp,ho,h];rfl,h▸hr⟩
 ·simp at hv
theorem PJ {x i:Operand} {x' i':O} {t e:TypeId} {m:Nat} (S:iD P hs D ι g w) (E:di P w D ι env a) (ho:o.op=.indexAddr t x i) (ht:P.underlying t=some (.slice e)) (hm:eX P e=some (m+1)) (hx:cO P x=some x') (hi:cO P i=some i')
  (hv:bU g (m+1) (du env x') (du env i')=some v):qc P a o w D ι v:=by
 have hr:=ek E hx
 have Gh:=ek E hi
 have go:∀b oo n c k (q:Int),a.eval x=.slice (some ⟨b,oo,none⟩) n c->a.eval i=.int k q->0<=q->q<n->(execOp a.eval o).run P w=.ok (.value (.pointer (some ⟨b,oo+q.toNat*(m+1),none⟩))) w:=fun b oo n c k q h h2 h3 h4=>by
  simp only[execOp,ho,h,h2,Instr.indexAt,asIntOf,Sem.run_bind,Sem.run_pure,run_underlying ht,Result.andThen_ok,h3,h4,and_self,if_true,run_sizeOf hm,lE]
 unfold bU at hv
 split at hv
 ·rename_i rows k q hb vz
  split at hv
  ·rename_i hq
   simp only[Option.bind_eq_some_iff]at hv
   obtain⟨cs,eD,hv⟩:=hv
   split at hv
   ·rename_i hlen
    simp at hv;subst hv
    rw[hb]at hr;rw[vz]at Gh
    have eM:=(List.getElem?_eq_some_iff.1 eD).1
    obtain⟨A,c,h,h1,h2,h3⟩:=zo hr
    rcases h3 with h3|⟨b,oo,sz,vs,rfl,hD,hl,fl,hc,hi⟩
    ·subst h3;simp at eD
    have e9:sz=m+1:=by rw[<-hlen,hl cs (List.mem_of_getElem? eD)]
    refine⟨_,go b oo _ _ k q h (ew Gh) hq ae,.fy _ _ (.dv cs b _ (vs q.toNat) hD (fl cs (List.mem_of_getElem? eD)) (fun j hj=>?_) (fun j a ha=>hi _ _ _ _ eD ha))⟩
    have:=hc q.toNat j eM (by rw[<-hl cs (List.mem_of_getElem? eD)];exact hj)
    rw[e9]at this
    rw[Nat.add_assoc];exact this
   ·simp at hv
  ·simp at hv
 ·rename_i kV off len k q hb vz
  split at hv
  ·rename_i hq
   simp only[Option.bind_eq_some_iff]at hv
   obtain⟨r,AL,hv⟩:=hv
   split at hv
   ·rename_i AP
    simp at hv;subst hv
    rw[hb]at hr;rw[vz]at Gh
    obtain⟨oo,cap,B,h,hB,h1,h2,h3,h4,hk⟩:=jO hr
    obtain⟨B',eG,R,_,_⟩:=S.row _ _ AL
    rw[hB]at eG;injection eG with eG;subst eG
    replace R:=R.row hk
    have e9:B.sz=m+1:=R.sz.trans AP
    refine⟨_,go _ _ _ _ k q h (ew Gh) hq.1 hq.2,?_⟩
    have C5:oo=off*B.sz:=by rcases h2 with h2|h2<;>omega
    have:oo+q.toNat*(m+1)=(off+q.toNat)*B.sz+0:=by rw[C5,<-e9,Nat.add_mul];rfl
    rw[this]
    exact .ptr _ _ _ _ hB hk
   ·simp at hv
  ·simp at hv
 ·simp at hv
theorem SO {x i:Operand} {x' i':O} {t e:TypeId} {m len:Nat} (E:di P w D ι env a) (ho:o.op=.indexAddr t x i) (ht:P.underlying t=some (.array len e)) (hm:eX P e=some (m+1)) (hx:cO P x=some x') (hi:cO P i=some i')
  (hv:cU len (m+1) (du env x') (du env i')=some v):qc P a o w D ι v:=by
 have hr:=ek E hx
 have Gh:=ek E hi
 have go:∀b oo k (q:Int),a.eval x=.pointer (some ⟨b,oo,none⟩)->a.eval i=.int k q->0<=q->q<len->(execOp a.eval o).run P w=.ok (.value (.pointer (some ⟨b,oo+q.toNat*(m+1),none⟩))) w:=fun b oo k q h h2 h3 h4=>by
  simp only[execOp,ho,h,h2,Instr.indexAt,asIntOf,Sem.run_bind,Sem.run_pure,run_underlying ht,Instr.sureAddr,Result.andThen_ok,h3,h4,and_self,if_true,run_sizeOf hm,lE]
 unfold cU at hv
 split at hv
 ·rename_i kV r oo k q hb vz
  split at hv
  ·rename_i hq
   simp at hv;subst hv
   rw[hb]at hr;rw[vz]at Gh
   obtain⟨B,h,hB,hk⟩:=jy hr
   refine⟨_,go _ _ k q h (ew Gh) hq.1 hq.2,?_⟩
   rw[Nat.add_assoc]
   exact .ptr _ _ _ _ hB hk
  ·simp at hv
 ·rename_i cs k q hb vz
  split at hv
  ·rename_i hq
   simp at hv;subst hv
   rw[hb]at hr;rw[vz]at Gh
   obtain⟨b,oo,vs,h,h1,h2,h3,h4⟩:=me hr
   refine⟨_,go _ _ k q h (ew Gh) hq.1 hq.2,.fy _ _ (.dv _ _ _ (fun j=>vs (q.toNat*(m+1)+j)) h1 (fun a ha=>h2 a (List.mem_of_mem_drop ha)) (fun j hj=>?_) (fun j a ha=>h4 _ _ (by simpa using ha)))⟩
   rw[Nat.add_assoc]
   exact h3 _ (by simp at hj;omega)
  ·simp at hv
 ·simp at hv
theorem SQ {x i:Operand} {x' i':O} {t:TypeId} (E:di P w D ι env a) (ho:o.op=.index t x i) (ht:P.underlying t=some .string) (hx:cO P x=some x') (hi:cO P i=some i')
  (hv:cW (du env x') (du env i')=some v):qc P a o w D ι v:=by
 have hr:=ek E hx
 have Gh:=ek E hi
 unfold cW at hv
 split at hv
 ·rename_i s k q hb vz
  split at hv
  ·rename_i hq
   simp only[Option.map_eq_some_iff]at hv
   obtain⟨c,hc,rfl⟩:=hv
   rw[hb]at hr;rw[vz]at Gh
   refine⟨_,?_,.fy _ _ (.int _ _)⟩
   simp only[execOp,ho,gM hr,ew Gh,Instr.index,asIntOf,Sem.run_bind,Sem.run_pure,run_underlying ht,Result.andThen_ok,hq,if_true,hc]
  ·simp at hv
 ·simp at hv
theorem SP {x i:Operand} {x' i':O} {t e:TypeId} {ag:Bool} {len n:Nat} (E:di P w D ι env a) (ho:o.op=.index t x i) (ht:P.underlying t=some (.array len e)) (xH:pH P e=some ag) (hn:eX P e=some n) (hx:cO P x=some x') (hi:cO P i=some i')
  (hv:cV ag len n (du env x') (du env i')=some v):qc P a o w D ι v:=by
 have hr:=ek E hx
 have Gh:=ek E hi
 unfold cV at hv
 split at hv
 ·rename_i cs k q hb vz
  split at hv
  ·rename_i hq
   rw[hb]at hr;rw[vz]at Gh
   obtain⟨vs,f,h,n1,fl,f1,r1⟩:=jN hr
   have go:∀u,(Go.part e vs (q.toNat*n)).run P w=.ok u w->(execOp a.eval o).run P w=.ok (.value u) w:=fun u hu=>by
    simp only[execOp,ho,h,ew Gh,Instr.index,asIntOf,Sem.run_bind,Sem.run_pure,run_underlying ht,Result.andThen_ok,hq,and_self,if_true,run_sizeOf hn,hu]
   unfold part at hv
   cases ag with
   |true=>
    simp only[if_true]at hv
    split at hv
    ·rename_i hl
     simp at hv;subst hv
     simp only[List.length_drop]at hl
     by_cases Ge:n=0
     ·subst Ge
      refine⟨_,go _ (rD xH hn),.agg _ _ (fun _=>undef) (by simp) (fun a ha=>by simp at ha) (fun j hj=>by simp at hj) (fun j a ha=>by simp at ha)⟩
     refine⟨_,go _ (rD xH hn),.agg _ _ (fun j=>f (q.toNat*n+j)) (by simp[n1];omega) (fun a ha=>fl a (List.mem_of_mem_drop (List.mem_of_mem_take ha))) (fun j hj=>?_) (fun j a ha=>?_)⟩
     ·simp at hj
      rw[Array.getElem?_extract,if_pos ae];exact f1 _ ae
     ·rw[List.getElem?_take]at ha
      split at ha
      ·exact r1 _ _ (by simpa using ha)
      ·simp at ha
    ·simp at hv
   |false=>
    simp only[Bool.false_eq_true,if_false]at hv
    have pM:cs[q.toNat*n]? =some v:=by simpa[List.head?_drop]using hv
    have eM:=(List.getElem?_eq_some_iff.1 pM).1
    exact⟨_,go _ (nW xH (f1 _ eM)),r1 _ _ pM⟩
  ·simp at hv
 ·simp at hv
theorem Kb {x:Operand} {x':O} {i:Nat} (E:di P w D ι env a) (ho:o.op=.extract x i) (hx:cO P x=some x') (hv:aD i (du env x')=some v):qc P a o w D ι v:=by
 have hr:=ek E hx
 unfold aD at hv
 split at hv
 ·rename_i vs hb
  rw[hb]at hr
  obtain⟨us,f,h,h1,h2,h3⟩:=xS hr
  have eM:=(List.getElem?_eq_some_iff.1 hv).1
  exact⟨_,by simp only[execOp,ho,h,Instr.extract,h2 _ eM];rfl,h3 _ _ hv⟩
 ·simp at hv
theorem WN {x:Operand} {x':O} {t:TypeId} {e:TypeId} {n:Nat} (E:di P w D ι env a) (ho:o.op=.call {callee:=.builtin .len,args:= #[x],argTypes:= #[t]}) (ht:P.underlying t=some (.slice e)) (hx:cO P x=some x') (hv:dV (du env x')=some n):qc P a o w D ι (.int .i64 n):=by
 have hr:=ek E hx
 have go:∀A c,a.eval x=.slice A n c->(execOp a.eval o).run P w=.ok (.value (.int .i64 n)) w:=fun A c h=>by
  simp only[execOp,ho,resolve,Sem.run_bind,Sem.run_pure,Result.andThen_ok,invoke,builtin,Array.map,h]
  simp[Builtin.len_,run_underlying ht,goInt,h]
 refine⟨.int .i64 n,?_,.fy _ _ (.int _ _)⟩
 unfold dV at hv
 split at hv<;>simp at hv<;>subst hv<;>rename_i hb<;>rw[hb]at hr
 ·exact go _ _ (lu hr)
 ·obtain⟨A,c,h,_⟩:=zo hr;exact go _ _ h
 ·obtain⟨oo,cap,B,h,_⟩:=jO hr;exact go _ _ h
theorem SS {x:Operand} {x':O} {t:TypeId} (E:di P w D ι env a) (ho:o.op=.call {callee:=.builtin .len,args:= #[x],argTypes:= #[t]}) (ht:P.underlying t=some .string) (hx:cO P x=some x') (hv:cY (du env x')=some v):qc P a o w D ι v:=by
 have hr:=ek E hx
 unfold cY at hv
 split at hv
 ·rename_i s hb
  simp at hv;subst hv
  rw[hb]at hr
  have h:=gM hr
  refine⟨_,?_,.fy _ _ (.int _ _)⟩
  simp only[execOp,ho,resolve,Sem.run_bind,Sem.run_pure,Result.andThen_ok,invoke,builtin,Array.map,h]
  simp[Builtin.len_,run_underlying ht,goInt,h]
 ·simp at hv
theorem oU {isS:Bool} {len cap h l:Nat} {lo hi:Option Operand} {Qx tA:Option O} (E:di P w D ι env a) (kI:tO P lo=some Qx) (Fs:tO P hi=some tA) (hh:dM len (tA.map (du env))=some h) (hl:dP h (Qx.map (du env))=some l) (hc:len<=cap):
  (Instr.sliceBounds isS len cap (lo.map a.eval) (hi.map a.eval) none).run P w=.ok (l,h,cap) w/\l<=h/\h<=len:=by
 have bound:∀(x:Operand) (y:O) (k:IntKind) (n:Int) (m:Nat) (c:BoundsCode),cO P x=some y->du env y=.int k n->0<=n->n<=m->(Instr.sliceBound (a.eval x) m c).run P w=.ok n.toNat w:=fun x y k n m c hx hy h0 h1=>by
  have hr:=ek E hx
  rw[hy]at hr
  simp only[Instr.sliceBound,ew hr,asIntOf,Sem.run_bind,Sem.run_pure,Result.andThen_ok,h0,h1,and_self,if_true]
 have H:h<=len/\((hi=none/\h=len)∨∃x,hi=some x/\∀c,(Instr.sliceBound (a.eval x) cap c).run P w=.ok h w):=by
  cases hi with
  |none=>
   simp[tO]at Fs;subst Fs
   simp[dM]at hh;subst hh
   exact⟨Nat.le_refl _,.inl ⟨rfl,rfl⟩⟩
  |some x=>
   simp only[tO,Option.map_eq_some_iff]at Fs
   obtain⟨y,hy,rfl⟩:=Fs
   simp only[Option.map_some,dM]at hh
   split at hh
   ·rename_i e;cases e
   ·rename_i k n e
    injection e with e
    split at hh
    ·rename_i hn
     simp at hh;subst hh
     exact⟨ae,.inr ⟨x,rfl,fun c=>bound x y k n _ _ hy e hn.1 ae⟩⟩
    ·simp at hh
   ·simp at hh
 have L:l<=h/\((lo=none/\l=0)∨∃x,lo=some x/\∀c,(Instr.sliceBound (a.eval x) h c).run P w=.ok l w):=by
  cases lo with
  |none=>
   simp[tO]at kI;subst kI
   simp[dP]at hl;subst hl
   exact⟨Nat.zero_le _,.inl ⟨rfl,rfl⟩⟩
  |some x=>
   simp only[tO,Option.map_eq_some_iff]at kI
   obtain⟨y,hy,rfl⟩:=kI
   simp only[Option.map_some,dP]at hl
   split at hl
   ·rename_i e;cases e
   ·rename_i k n e
    injection e with e
    split at hl
    ·rename_i hn
     simp at hl;subst hl
     exact⟨ae,.inr ⟨x,rfl,fun c=>bound x y k n h _ hy e hn.1 hn.2⟩⟩
    ·simp at hl
   ·simp at hl
 refine⟨?_,L.1,H.1⟩
 unfold Instr.sliceBounds
 rcases H.2 with⟨rfl,rfl⟩|⟨x,rfl,hx⟩<;>rcases L.2 with⟨rfl,rfl⟩|⟨y,rfl,hy⟩<;>
  simp only[Option.map_none,Option.map_some,Sem.run_bind,Sem.run_pure,Result.andThen_ok, *]
theorem PK {x:Operand} {x':O} {lo hi:Option Operand} {Qx tA:Option O} {t e:TypeId} {m:Nat} (S:iD P hs D ι g w) (E:di P w D ι env a) (ho:o.op=.slice t x lo hi none) (ht:P.underlying t=some (.slice e)) (hm:eX P e=some m) (hx:cO P x=some x') (kI:tO P lo=some Qx) (Fs:tO P hi=some tA)
  (hv:bV g m (du env x') (Qx.map (du env)) (tA.map (du env))=some v):qc P a o w D ι v:=by
 have hr:=ek E hx
 have go:∀A len cap l h,a.eval x=.slice A len cap->(Instr.sliceBounds true len cap (lo.map a.eval) (hi.map a.eval) none).run P w=.ok (l,h,cap) w->(execOp a.eval o).run P w=.ok (.value (.slice (if cap=l then A else A.map (·.add (l*m))) (h-l) (cap-l))) w:=fun A len cap l h h1 h2=>by
  simp only[execOp,ho,h1,Instr.sliceAt,Instr.slice,Sem.run_bind,Sem.run_pure,run_underlying ht,Result.andThen_ok,Option.map_none,h2,run_sizeOf hm]
 unfold bV at hv
 split at hv
 ·rename_i hb
  rw[hb]at hr
  simp only[Option.bind_eq_some_iff,Option.map_eq_some_iff]at hv
  obtain⟨h,hh,l,hl,rfl⟩:=hv
  obtain⟨q,q1,q2⟩:=oU (w:=w) (isS:=true) (cap:=0) E kI Fs hh hl (Nat.le_refl _)
  have h0:h=0:=ae
  have l0:l=0:=ae
  subst h0;subst l0
  refine⟨_,go _ _ _ _ _ (lu hr) q,?_⟩
  simp;exact .fy _ _ .ck
 ·rename_i rows hb
  rw[hb]at hr
  simp only[Option.bind_eq_some_iff,Option.map_eq_some_iff]at hv
  obtain⟨h,hh,l,hl,hv⟩:=hv
  split at hv
  ·rename_i eP
   simp at hv;subst hv
   obtain⟨A,c,he,c1,c2,h3⟩:=zo hr
   obtain⟨q,q1,q2⟩:=oU (w:=w) (isS:=true) (cap:=c) E kI Fs hh hl c1
   refine⟨_,go _ _ _ _ _ he q,.fy _ _ ?_⟩
   have hlen:((rows.drop l).take (h-l)).length=h-l:=by simp;omega
   by_cases hz:h-l=0
   ·have:(rows.drop l).take (h-l)=[]:=by rw[hz];simp
    rw[this,hz]
    exact .Db _ _ ae
   ·rcases h3 with h3|⟨b,oo,sz,vs,rfl,hD,NG,fl,hc,hi⟩
    ·subst h3;simp at q2;omega
    rw[if_neg ae]
    simp only[Option.map_some,lE]
    have Eb:sz=m:=by
     have eM:l<rows.length:=ae
     have:=eP rows[l] (List.getElem_mem eM)
     rw[<-this,NG _ (List.getElem_mem eM)]
    subst Eb
    refine .sl _ b _ _ _ sz (fun i j=>vs (l+i) j) hlen ae ae hD (fun cs eD=>NG cs (List.mem_of_mem_drop (List.mem_of_mem_take eD))) (fun cs eD=>fl cs (List.mem_of_mem_drop (List.mem_of_mem_take eD))) (fun i j hi hj=>?_) (fun i j cs a eD ha=>?_)
    ·rw[<-hc (l+i) j ae hj,Nat.add_mul]
     congr 2;omega
    ·rw[List.getElem?_take]at eD
     split at eD
     ·exact hi _ _ _ _ (by simpa using eD) ha
     ·simp at eD
  ·simp at hv
 ·rename_i kV off len hb
  rw[hb]at hr
  simp only[Option.bind_eq_some_iff,Option.map_eq_some_iff]at hv
  obtain⟨r,AL,h,hh,l,hl,hv⟩:=hv
  split at hv
  ·rename_i AP
   simp at hv;subst hv
   obtain⟨oo,cap,B,he,hB,h1,h2,h3,h4,hk⟩:=jO hr
   obtain⟨B',eG,R,_,_⟩:=S.row _ _ AL
   rw[hB]at eG;injection eG with eG;subst eG
   replace R:=R.row hk
   have e9:B.sz=m:=R.sz.trans AP
   obtain⟨q,q1,q2⟩:=oU (w:=w) (isS:=true) (cap:=cap) E kI Fs hh hl h1
   refine⟨_,go _ _ _ _ _ he q,?_⟩
   have e1:(off+l+(cap-l))*B.sz<=B.C:=by rw[show off+l+(cap-l)=off+cap by omega];exact h3
   by_cases pJ:cap=l
   ·rw[if_pos pJ]
    exact .own _ _ _ _ _ B hB hk ae (.inl ae) e1 ae
   ·rw[if_neg pJ]
    simp only[Option.map_some,lE]
    have C5:oo=off*B.sz:=by rcases h2 with h2|h2<;>omega
    exact .own _ _ _ _ _ B hB hk ae (.inr (by rw[C5,e9,Nat.add_mul])) e1 ae
  ·simp at hv
 ·simp at hv
theorem M6 {x:Operand} {x':O} {lo hi:Option Operand} {Qx tA:Option O} {t:TypeId} (E:di P w D ι env a) (ho:o.op=.slice t x lo hi none) (ht:P.underlying t=some .string) (hx:cO P x=some x') (kI:tO P lo=some Qx) (Fs:tO P hi=some tA)
  (hv:bd (du env x') (Qx.map (du env)) (tA.map (du env))=some v):qc P a o w D ι v:=by
 have hr:=ek E hx
 unfold bd at hv
 split at hv
 ·rename_i s hb
  rw[hb]at hr
  simp only[Option.bind_eq_some_iff,Option.map_eq_some_iff]at hv
  obtain⟨h,hh,l,hl,rfl⟩:=hv
  obtain⟨q,_,_⟩:=oU (w:=w) (isS:=false) E kI Fs hh hl (Nat.le_refl _)
  refine⟨_,?_,.fy _ _ (.str _)⟩
  simp only[execOp,ho,gM hr,Instr.sliceAt,Instr.slice,Sem.run_bind,Sem.run_pure,run_underlying ht,Result.andThen_ok,Option.map_none,Option.isSome_none,Bool.false_eq_true,if_false,q]
 ·simp at hv
theorem GJ {xs:List Operand} {ys:List O} (E:di P w D ι env a) (h:xs.mapM (cO P)=some ys):(xs.map a.eval).length=ys.length/\∀j y,ys[j]? =some y->dy P w D ι (du env y) ((xs.map a.eval).getD j undef):=by
 induction xs generalizing ys with
 |nil=>simp at h;subst h;simp
 |cons x r ih=>
  simp only[List.mapM_cons,Option.bind_eq_bind,Option.bind_eq_some_iff]at h
  obtain⟨c,hc,tU,eD,h⟩:=h
  simp at h;subst h
  obtain⟨h1,h2⟩:=ih eD
  refine⟨by simpa using h1,fun j d hd=>?_⟩
  cases j with
  |zero=>simp at hd ⊢;subst hd;exact ek E hc
  |succ j=>simp at hd ⊢;simpa using h2 j d hd
theorem SX {f:Nat} {first dG:Array Operand} {Dw:List O} (E:di P w D ι env a) (ho:o.op=.makeFunc (.func f) first dG) (hf:first= #[]) (hc:gT P f=true) (hx:dG.toList.mapM (cO P)=some Dw):qc P a o w D ι (.fn f (Dw.map (du env))):=by
 subst hf
 obtain⟨h1,h2⟩:=GJ E hx
 refine⟨.func (.func f) #[] (dG.map a.eval),by simp only[execOp,ho,Instr.makeFunc,Sem.run_bind,Sem.run_pure,Result.andThen_ok];simp,.fn _ _ _ (fun j=>(dG.toList.map a.eval).getD j undef) hc (by simpa using h1) (fun j hj=>?_) (fun j x UD=>?_)⟩
 ·simp at hj h1
  have:j<dG.size:=ae
  simp[this]
 ·simp only[List.getElem?_map,Option.map_eq_some_iff]at UD
  obtain⟨y,hy,rfl⟩:=UD
  exact h2 j y hy
theorem SY {f:Nat} {first dG:Array Operand} {Dw:List O} (E:di P w D ι env a) (ho:o.op=.makeFunc (.func f) first dG) (hf:dG= #[]) (hc:gT P f=true) (hx:first.toList.mapM (cO P)=some Dw):qc P a o w D ι (.wR f (Dw.map (du env))):=by
 subst hf
 obtain⟨h1,h2⟩:=GJ E hx
 refine⟨.func (.func f) (first.map a.eval) #[],by simp only[execOp,ho,Instr.makeFunc,Sem.run_bind,Sem.run_pure,Result.andThen_ok];simp,.wR _ _ _ (fun j=>(first.toList.map a.eval).getD j undef) hc (by simpa using h1) (fun j hj=>?_) (fun j x UD=>?_)⟩
 ·simp at hj h1
  have:j<first.size:=ae
  simp[this]
 ·simp only[List.getElem?_map,Option.map_eq_some_iff]at UD
  obtain⟨y,hy,rfl⟩:=UD
  exact h2 j y hy
end
end Go.Proofs.YtiabgllilcfheaaGreat.V

namespace Go.Proofs.YtiabgllilcfheaaGreat.V
open Go.RowKit
variable {P:Program} {w w':World} {D D':Nat->Prop} {ι ι':Names}
def Mk (P:Program) (a:Act) (o:Oper) (w:World) (D:Nat->Prop) (ι:Names) (id:Id) (v:AV) (r:Row):Prop:=
 ∃u cells T,(execOp a.eval o).run P w=.ok (.value u) (w.alloc (.cells cells T))/\r.w=true/\r.rows.length*r.sz<=cells.size/\(∀cs∈r.rows,cs.length=r.sz)/\(∀cs∈r.rows,∀a∈cs,a.cell=true)/\
  (∀i j cs a,r.rows[i]? =some cs->cs[j]? =some a->∃x,cells[i*r.sz+j]? =some x/\dy P w D ι a x)/\∀ι':Names,ι' id=some ⟨w.heap.size,r.sz,cells.size,none⟩->dy P w D ι' v u
section
variable {g:Rows} {hs:Nat} {env:Env} {a:Act} {o:Oper} {id:Id} {v:AV}
theorem kL {vs:List Value} {cs:List K} (h:vs.mapM Jn=some cs):gy P w D ι (cs.map K.av) vs.toArray:=by
 obtain⟨h1,h2⟩:=uo h
 refine⟨by simp[h1],fun j a ha=>?_⟩
 simp only[List.getElem?_map,Option.map_eq_some_iff]at ha
 obtain⟨c,hc,rfl⟩:=ha
 exact⟨c.val,by simpa using h2 j c hc,zl c⟩
theorem kT {t:TypeId} {z:List K} (h:kz P t=some z):∃i v,P.info? t=some i/\i.zero=some v/\v.cells.size=i.size/\v.cells.toList.mapM Jn=some z/\z.length=i.size:=by
 unfold kz at h
 split at h
 ·rename_i i hi
  split at h
  ·rename_i v hv
   split at h
   ·rename_i hs
    exact⟨i,v,hi,hv,hs,h,by rw[(uo h).1];simpa using hs⟩
   ·simp at h
  ·simp at h
 ·simp at h
theorem H3 {cs:List AV} {cells:Array Value} (h:gy P w D ι cs cells):∀i j c a,[cs][i]? =some c->c[j]? =some a->∃x,cells[i*cs.length+j]? =some x/\dy P w D ι a x:=by
 intro i j c a hi hj
 cases i with
 |zero=>simp at hi;subst hi;simpa using h.2 j a hj
 |succ i=>simp at hi
theorem Wg {t:TypeId} {z:List K} (ho:o.op=.alloc t) (hz:kz P t=some z):Mk P a o w D ι id (.ptr id 0 0) ⟨true,z.length,[z.map K.av]⟩:=by
 obtain⟨i,v,hi,hv,hs,hm,hl⟩:=kT hz
 have hk:=kL (P:=P) (w:=w) (D:=D) (ι:=ι) hm
 refine⟨.pointer (some ⟨w.heap.size,0,none⟩),v.cells,t,?_,rfl,?_,?_,?_,?_,?_⟩
 ·simp only[execOp,ho,Instr.alloc,zeroValue,typeInfo,Sem.run_bind]
  simp[hi,hv,newVar,newRow]
 ·simp[hl,hs]
 ·intro cs eD;simp at eD;subst eD;simp
 ·intro cs eD x hx;simp at eD;subst eD
  obtain⟨c,_,rfl⟩:=List.mem_map.1 hx;exact c.oz
 ·have:=H3 hk;simpa using this
 ·intro ι' hι
  have:=dy.ptr (P:=P) (w:=w) (D:=D) (ι:=ι') id 0 0 _ hι rfl
  simpa using this
theorem tr {x:AV} {u:Value} (h:dy P w D ι x u) (hc:x.cells.all AV.cell=true):gy P w D ι x.cells u.cells:=by
 obtain⟨h1,f,h2,h3⟩:=h.cells hc
 exact⟨h1,fun j a ha=>⟨f j,h2 j (List.getElem?_eq_some_iff.1 ha).1,h3 j a ha⟩⟩
theorem We {t:TypeId} {x:Operand} {x':O} {cs:List AV} (E:di P w D ι env a) (ho:o.op=.box t x) (hx:cO P x=some x') (hb:cQ (du env x')=some cs):Mk P a o w D ι id (.ptr id 0 0) ⟨true,cs.length,[cs]⟩:=by
 have hr:=ek E hx
 unfold cQ at hb
 split at hb
 ·rename_i eP
  simp at hb;subst hb
  have hk:=tr hr eP
  refine⟨.pointer (some ⟨w.heap.size,0,none⟩),(a.eval x).cells,t,?_,rfl,?_,?_,?_,?_,?_⟩
  ·simp only[execOp,ho,Instr.box,Sem.run_bind]
   simp[newVar,newRow]
  ·simp[hk.1]
  ·intro cs eD;simp at eD;subst eD;rfl
  ·intro cs eD y hy;simp at eD;subst eD
   exact List.all_eq_true.1 eP y hy
  ·exact H3 hk
  ·intro ι' hι
   have:=dy.ptr (P:=P) (w:=w) (D:=D) (ι:=ι') id 0 0 _ hι rfl
   simpa using this
 ·simp at hb
theorem foldl_set:∀(vs:List Value) (n off:Nat) (cells:Array Value),off+n+vs.length<=cells.size->((vs.zipIdx n).foldl (fun cs (x:Value×Nat)=>cs.setIfInBounds (off+x.2) x.1) cells).size=cells.size/\
  ∀k,((vs.zipIdx n).foldl (fun cs (x:Value×Nat)=>cs.setIfInBounds (off+x.2) x.1) cells)[k]? =if off+n<=k/\k<off+n+vs.length then vs[k-(off+n)]? else cells[k]?
 |[],n,off,cells,_=>⟨rfl,fun k=>by simp;intro h1 h2;omega⟩
 |v::r,n,off,cells,h=>by
  simp only[List.length_cons]at h
  obtain⟨h1,h2⟩:=foldl_set r (n+1) off (cells.setIfInBounds (off+n) v) (by simp;omega)
  simp only[List.zipIdx_cons,List.foldl_cons]
  refine⟨by rw[h1];simp,fun k=>?_⟩
  rw[h2 k]
  simp only[List.length_cons]
  by_cases hk:k=off+n
  ·subst hk
   rw[if_neg ae,if_pos ae]
   simp[show off+n<cells.size by omega]
  ·by_cases ue:off+n<=k/\k<off+n+(r.length+1)
   ·rw[if_pos ae,if_pos ue]
    have:k-(off+n)=(k-(off+(n+1)))+1:=ae
    rw[this,List.getElem?_cons_succ]
   ·rw[if_neg ae,if_neg ue,Array.getElem?_setIfInBounds_ne ae]
theorem yw (place:Nat->Option (Nat×Nat)):∀(ps:List (Nat×Value)) (qs:List (Nat×Nat×AV)) (cells:Array Value) (cs res:List AV),gy P w D ι cs cells->(∀a∈cs,a.cell=true)->ps.length=qs.length->
  (∀(k:Nat) i u o' n x,ps[k]? =some (i,u)->qs[k]? =some (o',n,x)->place i=some (o',n)/\dy P w D ι x u)->cF cs qs=some res->∃kb,Instr.fill place cells ps=some kb/\gy P w D ι res kb/\(∀a∈res,a.cell=true)/\res.length=cs.length:=by
 intro ps
 induction ps with
 |nil=>
  intro qs cells cs res hR hf hl _ hv
  cases qs with
  |nil=>simp[cF]at hv;subst hv;exact⟨cells,rfl,hR,hf,rfl⟩
  |cons q r=>simp at hl
 |cons p ps ih=>
  intro qs cells cs res hR hf hl hp hv
  cases qs with
  |nil=>simp at hl
  |cons q qs=>
   obtain⟨i,u⟩:=p
   obtain⟨oo,n,x⟩:=q
   obtain⟨mE,hr⟩:=hp 0 i u oo n x rfl rfl
   unfold cF at hv
   split at hv
   ·rename_i hc
    obtain⟨c1,c2,c3⟩:=hc
    have hk:=tr hr c3
    have hus:u.cells.size=n:=by rw[hk.1,c1]
    have eD:cells.size=cs.length:=hR.1
    unfold Instr.fill
    simp only[mE]
    rw[if_neg (by rw[hus,eD];simp;omega)]
    obtain⟨s1,s2⟩:=foldl_set u.cells.toList 0 oo cells (by simp;omega)
    have e0:(u.cells.zipIdx.foldl (fun cs (x:Value×Nat)=>cs.setIfInBounds (oo+x.2) x.1) cells)=(u.cells.toList.zipIdx 0).foldl (fun cs (x:Value×Nat)=>cs.setIfInBounds (oo+x.2) x.1) cells:=by
     rw[<-Array.foldl_toList];simp
    have ub:=ih qs (u.cells.zipIdx.foldl (fun cs (x:Value×Nat)=>cs.setIfInBounds (oo+x.2) x.1) cells) (cs.take oo++x.cells++cs.drop (oo+n)) res ?_ ?_ (by simpa using hl) (fun k i u o' n x h1 h2=>hp (k+1) i u o' n x (by simpa using h1) (by simpa using h2)) hv
    ·obtain⟨kb,h1,h2,h3,h4⟩:=ub
     refine⟨kb,h1,h2,h3,?_⟩
     rw[h4];simp;omega
    ·rw[e0]
     refine⟨by rw[s1,eD];simp;omega,fun j a ha=>?_⟩
     rw[s2 j]
     simp only[Nat.add_zero,Array.length_toList]
     by_cases hj:oo<=j/\j<oo+u.cells.size
     ·rw[if_pos hj]
      rw[List.append_assoc,List.getElem?_append_right (by simp;omega),List.getElem?_append_left (by simp;omega)]at ha
      simp only[List.length_take]at ha
      rw[show min oo cs.length=oo by omega]at ha
      simpa using hk.2 _ _ ha
     ·rw[if_neg hj]
      by_cases Uo:j<oo
      ·rw[List.append_assoc,List.getElem?_append_left (by simp;omega),List.getElem?_take,if_pos Uo]at ha
       exact hR.2 _ _ ha
      ·rw[List.getElem?_append_right (by simp;omega)]at ha
       simp only[List.length_append,List.length_take,List.getElem?_drop]at ha
       rw[show oo+n+(j-(min oo cs.length+x.cells.length))=j by omega]at ha
       exact hR.2 _ _ ha
    ·intro b hb
     rcases List.mem_append.1 hb with hb|hb
     ·rcases List.mem_append.1 hb with hb|hb
      ·exact hf b (List.mem_of_mem_take hb)
      ·exact List.all_eq_true.1 c3 b hb
     ·exact hf b (List.mem_of_mem_drop hb)
   ·simp at hv
theorem zV {fs:List Field} (h:∀f∈fs,(P.info? f.type).isSome=true):∃CB,fs.mapM (fun f=>(P.info? f.type).map fun i=>(f.offset,i.size))=some CB/\∀(i:Nat) (f:Field) (n:Nat),fs[i]? =some f->eX P f.type=some n->CB[i]? =some (f.offset,n):=by
 induction fs with
 |nil=>exact⟨[],rfl,fun i f n h=>by simp at h⟩
 |cons f r ih=>
  obtain⟨q,h1,h2⟩:=ih (fun x hx=>h x (List.mem_cons_of_mem _ hx))
  obtain⟨i,hi⟩:=Option.isSome_iff_exists.1 (h f (by simp))
  refine⟨(f.offset,i.size)::q,by simp[hi,h1],fun k x n hk hn=>?_⟩
  cases k with
  |zero=>simp at hk;subst hk;simp[eX,hi]at hn;subst hn;rfl
  |succ k=>simp at hk ⊢;exact h2 k x n hk hn
theorem sL {ps:List (Nat×Operand)} {l:List (Nat×O)} (E:di P w D ι env a) (h:ps.mapM (fun(x:Nat×Operand)=>(cO P x.2).map (x.1,·))=some l):l.length=ps.length/\∀(k i:Nat) (y:O),l[k]? =some (i,y)->∃x,ps[k]? =some (i,x)/\cO P x=some y:=by
 induction ps generalizing l with
 |nil=>simp at h;subst h;simp
 |cons p r ih=>
  simp only[List.mapM_cons,Option.bind_eq_bind,Option.bind_eq_some_iff]at h
  obtain⟨c,hc,tU,eD,h⟩:=h
  simp at h;subst h
  obtain⟨h1,h2⟩:=ih eD
  simp only[Option.map_eq_some_iff]at hc
  obtain⟨y,hy,rfl⟩:=hc
  refine⟨by simp[h1],fun k i z hk=>?_⟩
  cases k with
  |zero=>simp at hk;obtain⟨rfl,rfl⟩:=hk;exact⟨p.2,rfl,hy⟩
  |succ k=>simp at hk ⊢;exact h2 k i z hk
theorem FK {fs:Array Field} {l:List (Nat×O)} {q:List (Nat×Nat×O)} (h:uY P fs l=some q):q.length=l.length/\∀(k oo n:Nat) (y:O),q[k]? =some (oo,n,y)->∃(i:Nat) (f:Field),l[k]? =some (i,y)/\fs[i]? =some f/\f.offset=oo/\eX P f.type=some n:=by
 induction l generalizing q with
 |nil=>simp[uY]at h;subst h;simp
 |cons p r ih=>
  obtain⟨i,x⟩:=p
  unfold uY at h
  split at h
  ·rename_i f hf
   split at h
   ·rename_i n hn
    simp only[Option.map_eq_some_iff]at h
    obtain⟨q',OI,rfl⟩:=h
    obtain⟨h1,h2⟩:=ih OI
    refine⟨by simp[h1],fun k oo m y hk=>?_⟩
    cases k with
    |zero=>simp at hk;obtain⟨rfl,rfl,rfl⟩:=hk;exact⟨i,f,rfl,hf,rfl,hn⟩
    |succ k=>simp only[List.getElem?_cons_succ]at hk ⊢;exact h2 k oo m y hk
   ·simp at h
  ·simp at h
theorem gy.agg {xs:List AV} {vs:Array Value} (h:gy P w D ι xs vs) (hf:∀a∈xs,a.cell=true):dy P w D ι (.agg xs) (.agg vs):=
 .agg xs vs (fun j=>vs.getD j undef) h.1 hf (fun j hj=>by
  have:j<vs.size:=by rw[h.1];exact hj
  simp[this]) (fun j a ha=>by
  obtain⟨u,h1,h2⟩:=h.2 j a ha
  simpa[Array.getD_eq_getD_getElem?,h1]using h2)
theorem PG {t:TypeId} {ps:Array (Nat×Operand)} {fs:Array Field} {z:List K} {l:List (Nat×O)} {q:List (Nat×Nat×O)} {cs:List AV} (E:di P w D ι env a) (ho:o.op=.build t ps) (ht:P.underlying t=some (.struct fs)) (hz:kz P t=some z) (hl:vd P ps=some l)
  (ua:∀f∈fs.toList,(P.info? f.type).isSome=true) (hq:uY P fs l=some q) (hv:cF (z.map K.av) (q.map fun(o,n,x)=>(o,n,du env x))=some cs):qc P a o w D ι (.agg cs):=by
 obtain⟨it,zv,hi,yM,hs,hm,HQ⟩:=kT hz
 obtain⟨CB,mE,Zx⟩:=zV ua
 have hk:=kL (P:=P) (w:=w) (D:=D) (ι:=ι) hm
 obtain⟨n1,r1⟩:=sL E hl
 obtain⟨n2,r2⟩:=FK hq
 obtain⟨kb,h1,h2,h3,_⟩:=yw (P:=P) (w:=w) (D:=D) (ι:=ι) (CB.toArray[·]?) (ps.toList.map fun(i,x)=>(i,a.eval x)) (q.map fun(o,n,x)=>(o,n,du env x)) zv.cells _ cs (by simpa using hk)
  (fun b hb=>by obtain⟨c,_,rfl⟩:=List.mem_map.1 hb;exact c.oz) (by simp[n2,n1]) (fun k i u o' n x tC ue=>by
   simp only[List.getElem?_map,Option.map_eq_some_iff]at tC ue
   obtain⟨⟨i',x'⟩,hp,e1⟩:=tC
   obtain⟨⟨o2,n',y⟩,OI,e2⟩:=ue
   simp only[Prod.mk.injEq]at e1 e2
   obtain⟨rfl,rfl⟩:=e1
   obtain⟨rfl,rfl,rfl⟩:=e2
   obtain⟨i2,f,Lu,hf,rfl,hn⟩:=r2 _ _ _ _ OI
   obtain⟨x2,wL,hc⟩:=r1 _ _ _ Lu
   rw[hp]at wL
   simp only[Option.some.injEq,Prod.mk.injEq]at wL
   obtain⟨rfl,rfl⟩:=wL
   exact⟨by simpa using Zx _ _ _ (by simpa using hf) hn,ek E hc⟩) hv
 refine⟨.agg kb,?_,h2.agg h3⟩
 have hb:P.built t ((ps.map fun(i,x)=>(i,a.eval x)).toList)=some kb:=by
  unfold Program.built
  simp only[hi,ht,yM,mE]
  simpa using h1
 simp only[execOp,ho,Sem.run_bind,run_build w t _ _ hb,Result.andThen_ok,Sem.run_pure]
theorem M5 {t e:TypeId} {len n:Nat} {ps:Array (Nat×Operand)} {z:List K} {l:List (Nat×O)} {cs:List AV} (E:di P w D ι env a) (ho:o.op=.build t ps) (ht:P.underlying t=some (.array len e)) (hz:kz P t=some z) (hl:vd P ps=some l) (hn:eX P e=some n)
  (hv:cF (z.map K.av) ((l.map fun(x:Nat×O)=>(x.1*n,n,x.2)).map fun(o,n,x)=>(o,n,du env x))=some cs):qc P a o w D ι (.agg cs):=by
 obtain⟨it,zv,hi,yM,hs,hm,HQ⟩:=kT hz
 have hk:=kL (P:=P) (w:=w) (D:=D) (ι:=ι) hm
 obtain⟨n1,r1⟩:=sL E hl
 obtain⟨ie,C8,e9⟩:∃ie,P.info? e=some ie/\ie.size=n:=by simpa[eX]using hn
 obtain⟨kb,h1,h2,h3,_⟩:=yw (P:=P) (w:=w) (D:=D) (ι:=ι) (fun i=>some (i*ie.size,ie.size)) (ps.toList.map fun(i,x)=>(i,a.eval x)) ((l.map fun(x:Nat×O)=>(x.1*n,n,x.2)).map fun(o,n,x)=>(o,n,du env x)) zv.cells _ cs (by simpa using hk)
  (fun b hb=>by obtain⟨c,_,rfl⟩:=List.mem_map.1 hb;exact c.oz) (by simp[n1]) (fun k i u o' n' x tC ue=>by
   simp only[List.getElem?_map,Option.map_eq_some_iff]at tC ue
   obtain⟨⟨i',x'⟩,hp,e1⟩:=tC
   obtain⟨⟨o2,n2,y⟩,⟨⟨i2,y2⟩,Lu,e3⟩,e2⟩:=ue
   simp only[Prod.mk.injEq]at e1 e2 e3
   obtain⟨rfl,rfl⟩:=e1
   obtain⟨rfl,rfl,rfl⟩:=e2
   obtain⟨rfl,rfl,rfl⟩:=e3
   obtain⟨x2,wL,hc⟩:=r1 _ _ _ Lu
   rw[hp]at wL
   simp only[Option.some.injEq,Prod.mk.injEq]at wL
   obtain⟨rfl,rfl⟩:=wL
   exact⟨by rw[e9],ek E hc⟩) hv
 refine⟨.agg kb,?_,h2.agg h3⟩
 have hb:P.built t ((ps.map fun(i,x)=>(i,a.eval x)).toList)=some kb:=by
  unfold Program.built
  simp only[hi,ht,yM,C8]
  simpa using h1
 simp only[execOp,ho,Sem.run_bind,run_build w t _ _ hb,Result.andThen_ok,Sem.run_pure]
theorem yv:∀(vs:List AV) (sz i:Nat) (rs:List (List AV)) (cs:List AV),0<sz->cs.length=(i+vs.length)*sz->rowsOf sz vs=some rs->
  cF cs ((vs.zipIdx i).map fun(v,j)=>(j*sz,sz,v))=some (cs.take (i*sz)++rs.flatten)/\rs.length=vs.length/\(∀c∈rs,c.length=sz)/\∀c∈rs,∀x∈c,x.cell=true
 |[],sz,i,rs,cs,_,hl,h=>by
  simp[rowsOf]at h;subst h
  simp at hl
  simp[cF,List.take_of_length_le (show cs.length<=i*sz by omega)]
 |v::r,sz,i,rs,cs,e9,hl,h=>by
  simp only[rowsOf,Option.bind_eq_some_iff,Option.map_eq_some_iff]at h
  obtain⟨c,hc,rs',AP,rfl⟩:=h
  unfold rowOf at hc
  split at hc
  ·rename_i DZ
   simp at hc;subst hc
   obtain⟨sr,I4⟩:=DZ
   simp only[List.length_cons]at hl
   have hmul:(i+(r.length+1))*sz=i*sz+sz+r.length*sz:=by rw[Nat.add_mul,Nat.add_mul];omega
   have ih:=yv r sz (i+1) rs' (cs.take (i*sz)++v.cells++cs.drop (i*sz+sz)) e9 (by
    simp[sr];rw[Nat.add_mul,Nat.add_mul];omega) AP
   refine⟨?_,by simp[ih.2.1],?_,?_⟩
   ·simp only[List.zipIdx_cons,List.map_cons,cF]
    rw[if_pos ⟨sr,ae,I4⟩,ih.1]
    congr 1
    rw[List.flatten_cons,<-List.append_assoc]
    congr 1
    rw[Nat.add_mul,Nat.one_mul,List.take_append_of_le_length (by simp[sr];omega)]
    rw[List.take_of_length_le (by simp[sr];omega)]
   ·intro c' lZ;rcases List.mem_cons.1 lZ with rfl|lZ
    ·exact sr
    ·exact ih.2.2.1 c' lZ
   ·intro c' lZ;rcases List.mem_cons.1 lZ with rfl|lZ
    ·exact List.all_eq_true.1 I4
    ·exact ih.2.2.2 c' lZ
  ·simp at hc
theorem flat_get {α:Type} {ql:List (List α)} {sz:Nat} (h:∀cs∈ql,cs.length=sz) {i j:Nat} {cs:List α} {a:α} (hi:ql[i]? =some cs) (hj:cs[j]? =some a):ql.flatten[i*sz+j]? =some a:=by
 induction ql generalizing i with
 |nil=>simp at hi
 |cons c r ih=>
  have hc:c.length=sz:=h c (by simp)
  cases i with
  |zero=>
   simp at hi;subst hi
   have eM:=(List.getElem?_eq_some_iff.1 hj).1
   rw[List.flatten_cons,List.getElem?_append_left ae];simpa using hj
  |succ i=>
   rw[List.flatten_cons,List.getElem?_append_right (by rw[hc,Nat.succ_mul];omega)]
   have:(i+1)*sz+j-c.length=i*sz+j:=by rw[hc,Nat.succ_mul];omega
   rw[this]
   exact ih (fun cs eD=>h cs (List.mem_cons_of_mem _ eD)) (by simpa using hi)
theorem K7 {α:Type} {ql:List (List α)} {sz:Nat} (h:∀cs∈ql,cs.length=sz):ql.flatten.length=ql.length*sz:=by
 induction ql with
 |nil=>simp
 |cons c r ih=>
  rw[List.flatten_cons,List.length_append,h c (by simp),ih (fun cs eD=>h cs (List.mem_cons_of_mem _ eD)),List.length_cons,Nat.succ_mul];omega
theorem qV {zv:Value} {z:List K} {n:Nat} (hm:zv.cells.toList.mapM Jn=some z) (lH:0<z.length):∀k,k<n->∃c,z[k % z.length]? =some c/\((Array.range n).map (zv.cells[· % zv.cells.size]!))[k]? =some c.val:=by
 intro k hk
 obtain⟨h1,h2⟩:=uo hm
 have e9:zv.cells.size=z.length:=by simpa using h1.symm
 have eM:k % z.length<z.length:=Nat.mod_lt _ lH
 refine⟨z[k % z.length],List.getElem?_eq_getElem eM,?_⟩
 have h3:=h2 _ _ (List.getElem?_eq_getElem eM)
 simp only[Array.getElem?_toList]at h3
 have Ea:k % z.length<zv.cells.size:=by rw[e9];exact eM
 rw[Array.getElem?_map,Array.getElem?_range,if_pos hk]
 simp only[Option.map_some]
 rw[e9,getElem!_pos zv.cells (k % z.length) Ea]
 rw[Array.getElem?_eq_getElem Ea]at h3
 exact h3
theorem L4 {t e:TypeId} {len sz:Nat} {ps:Array (Nat×Operand)} {z:List K} {l:List (Nat×O)} {rs:List (List AV)} (E:di P w D ι env a) (ho:o.op=.buildSlice t len ps) (ht:P.underlying t=some (.slice e)) (e9:eX P e=some (sz+1)) (hz:kz P e=some z)
  (hl:vd P ps=some l) (Je:len*(sz+1)<=4096) (VZ:l.map (·.1)=List.range len) (hv:rowsOf (sz+1) (l.map fun x=>du env x.2)=some rs):Mk P a o w D ι id (.own id 0 len) ⟨true,sz+1,rs⟩:=by
 obtain⟨it,zv,hi,yM,hs,hm,HQ⟩:=kT hz
 have ko:it.size=sz+1:=by simpa[eX,hi]using e9
 obtain⟨n1,r1⟩:=sL E hl
 have Km:l.length=len:=by have:=congrArg List.length VZ;simpa using this
 by_cases h0:len=0
 ·subst h0
  have Qh:l=[]:=List.length_eq_zero_iff.1 Km
  subst Qh
  simp[rowsOf]at hv;subst hv
  have VU:ps= #[]:=by
   apply Array.ext';apply List.eq_nil_of_length_eq_zero;rw[<-n1];rfl
  subst VU
  refine⟨.slice (some ⟨w.heap.size,0,none⟩) 0 0, #[],e,?_,rfl,by simp,by simp,by simp,fun i j cs x hi=>by simp at hi,fun ι' hι=>?_⟩
  ·simp[execOp,ho,Instr.buildSlice,run_underlying ht,sizeOf,typeInfo,hi,Instr.fill,newRow,Array.range_zero']
  ·exact .own _ 0 0 0 0 _ hι rfl (Nat.le_refl _) (.inl rfl) (by simp) (by simp[maxLen])
 ·have AS:gy P w D ι ((List.range (len*(sz+1))).map fun k=>(z.getD (k % z.length) .ck).av) ((Array.range (len*(sz+1))).map (zv.cells[· % zv.cells.size]!)):=by
   refine⟨by simp,fun j x hx=>?_⟩
   simp only[List.getElem?_map,Option.map_eq_some_iff]at hx
   obtain⟨k,hk,rfl⟩:=hx
   have mU:=(List.getElem?_eq_some_iff.1 hk).1
   simp at mU
   rw[List.getElem?_range mU]at hk
   injection hk with hk
   subst hk
   obtain⟨c,hc,Xj⟩:=qV hm (by rw[HQ,ko];omega) j mU
   exact⟨c.val,Xj,by rw[List.getD_eq_getElem?_getD,hc];exact zl c⟩
  obtain⟨f1,f2,f3,f4⟩:=yv (l.map fun x=>du env x.2) (sz+1) 0 rs ((List.range (len*(sz+1))).map fun k=>(z.getD (k % z.length) .ck).av) ae (by simp[Km]) hv
  obtain⟨kb,h1,h2,h3,h4⟩:=yw (P:=P) (w:=w) (D:=D) (ι:=ι) (fun i=>some (i*it.size,it.size)) (ps.toList.map fun(i,x)=>(i,a.eval x)) _ _ _ _ AS
   (fun b hb=>by obtain⟨c,_,rfl⟩:=List.mem_map.1 hb;exact K.oz _) (by simp[n1]) (fun k i u o' n x tC ue=>by
   simp only[List.getElem?_map,Option.map_eq_some_iff]at tC ue
   obtain⟨⟨i',x'⟩,hp,e1⟩:=tC
   obtain⟨⟨v2,j2⟩,OI,e2⟩:=ue
   simp only[Prod.mk.injEq]at e1 e2
   obtain⟨rfl,rfl⟩:=e1
   obtain⟨rfl,rfl,rfl⟩:=e2
   rw[List.getElem?_zipIdx]at OI
   simp only[List.getElem?_map,Option.map_map,Option.map_eq_some_iff,Function.comp_apply,Prod.mk.injEq,Nat.zero_add]at OI
   obtain⟨⟨i2,y⟩,Lu,rfl,rfl⟩:=OI
   obtain⟨x2,wL,hc⟩:=r1 _ _ _ Lu
   rw[hp]at wL
   simp only[Option.some.injEq,Prod.mk.injEq]at wL
   obtain⟨rfl,rfl⟩:=wL
   have AM:(l.map (·.1))[k]? =some i':=by rw[List.getElem?_map,Lu];rfl
   have mU:=(List.getElem?_eq_some_iff.1 AM).1
   rw[VZ]at AM
   simp at mU
   rw[List.getElem?_range ae]at AM
   injection AM with AM
   subst AM
   exact⟨by rw[ko],ek E hc⟩) f1
  simp only[Nat.zero_mul,List.take_zero,List.nil_append,List.length_map]at h2 h3 h4 f2
  have eD:kb.size=len*(sz+1):=by rw[h2.1,h4];simp
  refine⟨.slice (some ⟨w.heap.size,0,none⟩) len len,kb,e,?_,rfl,?_,f3,f4,fun i j cs x tA hj=>h2.2 _ _ (flat_get f3 tA hj),fun ι' hι=>?_⟩
  ·have iw:=run_buildSlice (P:=P) w t e len (ps.map fun(i,x)=>(i,a.eval x)) kb it zv ht hi yM (by rw[ko];omega) (by rw[ko];exact Nat.mul_ne_zero h0 ae) (by rw[<-ko]at h1;simpa using h1)
   simp only[execOp,ho,Sem.run_bind,iw,Result.andThen_ok,Sem.run_pure]
  ·dsimp only;rw[f2,Km,eD];exact Nat.le_refl _
  ·refine .own _ 0 len 0 len _ hι rfl (Nat.le_refl _) (.inr (by simp)) ?_ (by simp only[maxLen];have:=Nat.le_mul_of_pos_right len (show 0<sz+1 by omega);omega)
   dsimp only;rw[eD];simp
theorem JB {t e:TypeId} {it:TypeInfo} {m:Nat} {z:List K} {l c:Operand} {l' c':O} {n:Nat} {r:Row} (E:di P w D ι env a) (ho:o.op=.makeSlice t l c) (ht:P.underlying t=some (.slice e)) (e9:eX P e=some (m+1)) (hz:kz P e=some z) (Oz:P.info? e=some it) (hby:it.bytes<=32768)
  (hl:cO P l=some l') (hc:cO P c=some c') (hv:gF z (du env l') (du env c')=some (n,r)):Mk P a o w D ι id (.own id 0 n) r:=by
 obtain⟨it',zv,hi,yM,hs,hm,HQ⟩:=kT hz
 rw[Oz]at hi;injection hi with hi;subst hi
 have ko:it.size=m+1:=by simpa[eX,Oz]using e9
 unfold gF at hv
 split at hv
 ·rename_i k1 ln k2 cn e1 e2
  split at hv
  ·rename_i hb
   obtain⟨b1,b2,b3⟩:=hb
   simp at hv
   obtain⟨rfl,rfl⟩:=hv
   have r1:=ew (e1▸ek E hl)
   have r2:=ew (e2▸ek E hc)
   unfold dI at b3
   have Kj:(it.bytes:Int)*cn<=281474976710656:=by
    have h1:(it.bytes:Int)<=32768:=ae
    have h2:(it.bytes:Int)*cn<=32768*16777216:=Int.mul_le_mul h1 ae ae ae
    omega
   have iw:=run_make (P:=P) w t e it zv ht Oz yM k1 k2 ln cn b1 b2 Kj ae
   have mT:∀k,k<cn.toNat*it.size->∃x,z[k % z.length]? =some x/\(madeCells zv.cells (cn.toNat*it.size))[k]? =some x.val:=fun k hk=>qV hm (by rw[HQ,ko];omega) k hk
   refine⟨.slice (some ⟨w.heap.size,0,none⟩) ln.toNat cn.toNat,madeCells zv.cells (cn.toNat*it.size),e,by simp only[execOp,ho,r1,r2,Sem.run_bind,iw,Result.andThen_ok,Sem.run_pure],rfl,?_,?_,?_,?_,fun ι' hι=>?_⟩
   ·simp only[List.length_replicate,size_madeCells,HQ]
    exact Nat.mul_le_mul_right _ ae
   ·intro cs eD
    have:=List.eq_of_mem_replicate eD
    subst this;simp
   ·intro cs eD x hx
    have:=List.eq_of_mem_replicate eD
    subst this
    obtain⟨c,_,rfl⟩:=List.mem_map.1 hx;exact c.oz
   ·intro i j cs x tA hj
    have l5:=(List.getElem?_eq_some_iff.1 tA).1
    have:=List.eq_of_mem_replicate (List.mem_of_getElem? tA)
    subst this
    simp only[List.length_replicate]at l5
    simp only[List.getElem?_map,Option.map_eq_some_iff]at hj
    obtain⟨q,hq,rfl⟩:=hj
    have iv:=(List.getElem?_eq_some_iff.1 hq).1
    dsimp only
    obtain⟨x,hx,wL⟩:=mT (i*z.length+j) (by
     rw[<-HQ]
     calc i*z.length+j<i*z.length+z.length:=ae
      _=(i+1)*z.length:=by rw[Nat.add_mul,Nat.one_mul]
      _<=cn.toNat*z.length:=Nat.mul_le_mul_right _ ae)
    rw[Nat.mul_comm i,Nat.mul_add_mod,Nat.mod_eq_of_lt iv,hq]at hx
    injection hx with hx;subst hx
    exact⟨_,by rw[Nat.mul_comm i]at wL ⊢;exact wL,zl q⟩
   ·refine .own _ 0 _ 0 _ _ hι rfl ae (.inr (by simp)) ?_ (by simp only[maxLen];omega)
    dsimp only;rw[size_madeCells,HQ];simp
  ·simp at hv
 ·simp at hv
end
end Go.Proofs.YtiabgllilcfheaaGreat.V

namespace Go.Proofs.YtiabgllilcfheaaGreat.V
open Go.RowKit
variable {P:Program} {w w':World} {D D':Nat->Prop} {ι ι':Names}
def Hf (P:Program) (k:TypeId) (m:MK):Prop:=
 (∃s,m=⟨false,[s]⟩/\gC P k=some s)∨
 (∃fs ts,m=⟨true,ts⟩/\P.underlying k=some (.struct fs)/\fq P 4 0 fs.toList=some ts/\P.stoodInHeld k=false/\∀f∈fs.toList,(gC P f.type).isSome=true)
theorem tN {t:TypeId} {m:MK} {z:K} (h:u9 P t=some (m,z)):∃k e i zv,P.underlying t=some (.map k e)/\P.info? e=some i/\i.zero=some zv/\Jn zv=some z/\Hf P k m:=by
 unfold u9 at h
 split at h
 ·rename_i k e ht
  split at h
  ·rename_i zv s h1 h2 h3
   simp only[Option.map_eq_some_iff,Prod.mk.injEq]at h
   obtain⟨z',hz,rfl,rfl⟩:=h
   simp only[Option.bind_eq_some_iff]at h2
   obtain⟨i,hi,yM⟩:=h2
   exact⟨k,e,i,zv,ht,hi,yM,hz,.inl ⟨s,rfl,h3⟩⟩
  ·rename_i zv fs h1 h2 h3 h4
   split at h
   ·rename_i ts z' z8 hz
    split at h
    ·rename_i hc
     simp only[Option.some.injEq,Prod.mk.injEq]at h
     obtain⟨rfl,rfl⟩:=h
     simp only[Option.bind_eq_some_iff]at h2
     obtain⟨i,hi,yM⟩:=h2
     simp only[Bool.not_eq_true',List.all_eq_true]at hc
     exact⟨k,e,i,zv,ht,hi,yM,hz,.inr ⟨fs,ts,rfl,h4,z8,hc.1,hc.2⟩⟩
    ·cases h
   ·cases h
  ·cases h
 ·cases h
theorem zq {t:TypeId} {s:TS} (ht:gC P t=some s) (em:Bool) (n:Nat) (v:Value):(Instr.checkKey em (n+1) t v).run P w=.ok () w:=by
 unfold Instr.checkKey
 cases s with
 |tB=>simp[run_underlying (rF ht)]
 |tS=>simp[run_underlying (rI ht)]
 |tI=>
  obtain⟨q,hq⟩:=rH ht
  simp[run_underlying hq]
theorem zr (em:Bool) (n:Nat) (vs:Array Value):∀(d:Nat) (fs:List Field) (off:Nat) (ts:List TS),fq P (d+1) off fs=some ts->(∀f∈fs,(gC P f.type).isSome=true)->off+ts.length<=vs.size->
  Sem.run P (forIn fs PUnit.unit fun f (_:PUnit)=>if f.name≠ "_" then do
    let x <-Go.part f.type vs f.offset
    Instr.checkKey em (n+1) f.type x
    pure (ForInStep.yield PUnit.unit)
   else pure (ForInStep.yield PUnit.unit)) w=Result.ok PUnit.unit w
 |d,[],off,ts,_,_,_=>by simp
 |d,f::r,off,ts,hf,hs,hl=>by
  rw[AD]at hf
  split at hf
  ·rename_i hcond
   obtain⟨ho,iN⟩:=hcond
   split at hf
   ·rename_i s UA
    split at hf
    ·rename_i xH
     simp only[Option.map_eq_some_iff]at hf
     obtain⟨QE,hr,rfl⟩:=hf
     simp only[List.length_cons]at hl
     have ih:=zr em n vs d r (off+1) QE hr (fun f hf=>hs f (List.mem_cons_of_mem _ hf)) ae
     have hu:vs[off]? =some vs[off]:=by simp
     simp only[List.forIn_cons,Sem.run_bind,if_pos iN,ho,nW xH hu,Result.andThen_ok,zq UA,Sem.run_pure]
     exact ih
    ·cases hf
   ·rename_i hn
    have:=hs f (by simp)
    rw[hn]at this;cases this
  ·cases hf
theorem GP {k:TypeId} {m:MK} (hk:Hf P k m) (em:Bool) (key:AV) (u:Value) (xH:key.isAgg=m.ka) (hlen:key.cells.length=m.ks) (hr:dy P w D ι key u):(Instr.checkKey em 10000 k u).run P w=.ok () w:=by
 rcases hk with⟨s,rfl,hs⟩|⟨fs,ts,rfl,ua,z8,ev,eP⟩
 ·exact zq hs em 9999 u
 ·cases key<;>simp[AV.isAgg]at xH
  rename_i cs
  obtain⟨vs,f,rfl,h1,_⟩:=jN hr
  unfold Instr.checkKey
  simp only[Sem.run_bind,run_underlying ua,Result.andThen_ok]
  rw[<-Array.forIn_toList]
  have h:=zr (P:=P) (w:=w) em 9998 vs 3 fs.toList 0 ts z8 eP (by simp[AV.cells,MK.ks]at hlen;omega)
  rw[h]
  rfl
theorem KK (a b:ByteArray):(a==b)=decide (a=b):=by
 by_cases h:a=b
 ·subst h;rw[decide_eq_true rfl]
  obtain⟨x⟩:=a
  show(x==x)=true
  simp
 ·rw[decide_eq_false h,Bool.eq_false_iff]
  intro hc
  obtain⟨x⟩:=a
  obtain⟨y⟩:=b
  exact h (by rw[show x=y by simpa using(show(x==y)=true from hc)])
theorem MH {t:TypeId} {s:TS} {x y:AV} {u v:Value} {b:Bool} {d:TypeDesc} (ht:gC P t=some s) (hd:P.underlying t=some d) (he:fJ s x y=some b) (hx:dy P w D ι x u) (hy:dy P w D ι y v):Instr.sameNow d u v=some b:=by
 unfold fJ at he
 split at he
 ·rename_i k n k' n'
  split at he
  ·rename_i hk
   subst hk
   simp at he;subst he
   obtain⟨q,hq⟩:=rH ht
   rw[hd]at hq;injection hq with hq;subst hq
   rw[ew hx,ew hy]
   simp[Instr.sameNow]
   rfl
  ·cases he
 ·simp at he;subst he
  have hq:=rF ht
  rw[hd]at hq;injection hq with hq;subst hq
  rw[gj hx,gj hy];rfl
 ·rename_i a c
  simp at he;subst he
  have hq:=rI ht
  rw[hd]at hq;injection hq with hq;subst hq
  rw[gM hx,gM hy]
  simp only[Instr.sameNow,KK]
 ·cases he
def Found (es:List MapEntry) (i:Nat) (r:Option Nat) (res:Option (Nat×Value)):Prop:=(r=none/\res=none)∨∃j e,r=some (i+j)/\es[j]? =some e/\res=some (i+j,e.val)
theorem yz {e:MapEntry} {es:List MapEntry} {i:Nat} {r:Option Nat} {res:Option (Nat×Value)} (h:Found es (i+1) r res):Found (e::es) i r res:=by
 rcases h with h|⟨j,x,h1,h2,h3⟩
 ·exact .inl h
 ·exact .inr ⟨j+1,x,by rw[h1];congr 1;omega,by simpa using h2,by rw[h3];congr 2;omega⟩
theorem DL {t:TypeId} {s:TS} {d:TypeDesc} {x:AV} {u:Value} (ht:gC P t=some s) (hd:P.underlying t=some d) (hx:dy P w D ι x u):∀(rows:List (List AV)) (es:List MapEntry) (i:Nat) (r:Option Nat),es.length=rows.length->
  (∀(j:Nat) (cs:List AV),rows[j]? =some cs->∃(e:MapEntry) (kv:AV),es[j]? =some e/\cs.head? =some kv/\dy P w D ι kv e.key)->iy ⟨false,[s]⟩ [x] rows i=some r->∃res,Instr.findNow d u es i=some res/\Found es i r res
 |[],[],i,r,_,_,h=>by
  simp[iy]at h;subst h
  exact⟨none,rfl,.inl ⟨rfl,rfl⟩⟩
 |[],e::es,i,r,hl,_,h=>by simp at hl
 |cs::rows,[],i,r,hl,_,h=>by simp at hl
 |cs::rows,e::es,i,r,hl,hr,h=>by
  obtain⟨e',kv,HF,hk,iP⟩:=hr 0 cs rfl
  simp at HF;subst HF
  have eD:cs.take (MK.ks ⟨false,[s]⟩)=[kv]:=by
   cases cs with
   |nil=>simp at hk
   |cons a l=>simp at hk;subst hk;simp[MK.ks]
  unfold iy at h
  rw[eD]at h
  cases hq:fJ s x kv with
  |none=>simp[fa,hq]at h
  |some b=>
   have hs:=MH ht hd hq hx iP
   cases b with
   |true=>
    simp[fa,hq]at h;subst h
    exact⟨some (i,e.val),by simp[Instr.findNow,hs],.inr ⟨0,e,rfl,rfl,rfl⟩⟩
   |false=>
    simp[fa,hq]at h
    obtain⟨res,h1,h2⟩:=DL ht hd hx rows es (i+1) r (by simpa using hl) (fun j cs hj=>hr (j+1) cs (by simpa using hj)) h
    exact⟨res,by simp[Instr.findNow,hs,h1],yz h2⟩
theorem sF {t:TypeId} {fs:Array Field} {ts:List TS} {xs ys:List AV} {vs us:Array Value} {b:Bool} (ua:P.underlying t=some (.struct fs)) (ev:P.stoodInHeld t=false) (z8:fq P 4 0 fs.toList=some ts) (hx:gy P w D ι xs vs) (hy:gy P w D ι ys us) (hv:fa ts xs ys=some b):(Op.equal t (.agg vs) (.agg us)).run P w=.ok b w:=by
 obtain⟨l1,l2⟩:=tW hv
 have q:=uz (w:=w) 4 fs.toList 0 ts z8 9998 ae xs ys vs us b hx hy (by simpa[List.take_of_length_le,l1,l2]using hv)
 have Lp:P.fieldsOf t=fs:=by simp[Program.fieldsOf,ua]
 unfold Op.equal
 rw[show Op.maxDepth=9999+1 from rfl,run_equalIn_struct w 9999 t _ _ (by rw[Lp];exact ua) ev,Lp,q]
theorem ux {cs:List AV} {v:Value} (h:dy P w D ι (.agg cs) v):∃vs,v=.agg vs/\gy P w D ι cs vs:=by
 obtain⟨vs,f,rfl,n1,_,f1,r1⟩:=jN h
 exact⟨vs,rfl,n1,fun j a ha=>⟨f j,f1 j (List.getElem?_eq_some_iff.1 ha).1,r1 j a ha⟩⟩
theorem DK {t:TypeId} {fs:Array Field} {ts:List TS} {xs:List AV} {vs:Array Value} (ua:P.underlying t=some (.struct fs)) (ev:P.stoodInHeld t=false) (z8:fq P 4 0 fs.toList=some ts) (hx:gy P w D ι xs vs):∀(rows:List (List AV)) (es:List MapEntry) (i:Nat) (r:Option Nat),es.length=rows.length->
  (∀(j:Nat) (cs:List AV),rows[j]? =some cs->∃e:MapEntry,es[j]? =some e/\dy P w D ι (.agg (cs.take ts.length)) e.key)->iy ⟨true,ts⟩ xs rows i=some r->∃res,(Instr.findAsking t (.agg vs) es i).run P w=.ok res w/\Found es i r res
 |[],[],i,r,_,_,h=>by
  simp[iy]at h;subst h
  exact⟨none,by simp[Instr.findAsking],.inl ⟨rfl,rfl⟩⟩
 |[],e::es,i,r,hl,_,h=>by simp at hl
 |cs::rows,[],i,r,hl,_,h=>by simp at hl
 |cs::rows,e::es,i,r,hl,hr,h=>by
  obtain⟨e',HF,iP⟩:=hr 0 cs rfl
  simp at HF;subst HF
  obtain⟨us,hk,hy⟩:=ux iP
  unfold iy at h
  simp only[MK.ks]at h
  split at h
  ·rename_i hq
   simp at h;subst h
   have q:=sF ua ev z8 hx hy hq
   exact⟨some (i,e.val),by simp[Instr.findAsking,hk,q],.inr ⟨0,e,rfl,rfl,rfl⟩⟩
  ·rename_i hq
   have q:=sF ua ev z8 hx hy hq
   obtain⟨res,h1,h2⟩:=DK ua ev z8 hx rows es (i+1) r (by simpa using hl) (fun j cs hj=>hr (j+1) cs (by simpa using hj)) h
   exact⟨res,by simp[Instr.findAsking,hk,q,h1],yz h2⟩
  ·cases h
theorem ym {a:AV} (h:a.isAgg=false):a.cells=[a]:=by cases a<;>simp_all [AV.isAgg,AV.cells]
theorem yy {k:TypeId} {m:MK} {B:uS} {r:Row} (hk:Hf P k m) {key:AV} {u:Value} (hr:dy P w D ι key u) {es:Array MapEntry} (e9:es.size=r.rows.length)
  (hM:∀(i:Nat) (cs:List AV),r.rows[i]? =some cs->∃(e:MapEntry) (kv vv:AV),es[i]? =some e/\part m.ka m.ks cs=some kv/\cs[m.ks]? =some vv/\dy P w D ι kv e.key/\dy P w D ι vv e.val) {fi:Option Nat} (h:gW m key r.rows=some fi):
  (∀em,(Instr.checkKey em 10000 k u).run P w=.ok () w)/\∃res,(Instr.findKey k u es.toList).run P w=.ok res w/\Found es.toList 0 fi res:=by
 unfold gW at h
 split at h
 ·rename_i hc
  obtain⟨c1,c2,c3⟩:=hc
  refine⟨fun em=>GP hk em key u c1 c2 hr,?_⟩
  rcases hk with⟨s,rfl,hs⟩|⟨fs,ts,rfl,ua,z8,ev,eP⟩
  ·rw[ym c1]at h
   have hd:∃d,P.underlying k=some d:=by
    cases s with
    |tB=>exact⟨_,rF hs⟩
    |tS=>exact⟨_,rI hs⟩
    |tI=>obtain⟨q,hq⟩:=rH hs;exact⟨_,hq⟩
   obtain⟨d,hd⟩:=hd
   obtain⟨res,h1,h2⟩:=DL hs hd hr r.rows es.toList 0 fi (by simpa using e9) (fun j cs hj=>by
    obtain⟨e,kv,vv,q1,q2,_,q4,_⟩:=hM j cs hj
    exact⟨e,kv,by simpa using q1,by simpa[part]using q2,q4⟩) h
   exact⟨res,by simp[Instr.findKey,run_underlying hd,h1],h2⟩
  ·cases key<;>simp[AV.isAgg]at c1
   rename_i cs
   obtain⟨vs,rfl,hL⟩:=ux hr
   obtain⟨res,h1,h2⟩:=DK ua ev z8 hL r.rows es.toList 0 fi (by simpa using e9) (fun j cs hj=>by
    obtain⟨e,kv,vv,q1,q2,_,q4,_⟩:=hM j cs hj
    unfold part at q2
    simp only[if_true]at q2
    split at q2
    ·simp only[Option.some.injEq]at q2;subst q2
     exact⟨e,by simpa using q1,q4⟩
    ·cases q2) h
   exact⟨res,(run_findKey_eq w (by simp[ua]) _ _).trans h1,h2⟩
 ·cases h
section
variable {g:Rows} {hs:Nat} {env:Env} {a:Act} {o:Oper} {id:Id} {v:AV}
theorem Ct {m:MK} {x:AV} {u:Value} {p:Id×Row} (S:iD P hs D ι g w) (hr:dy P w D ι x u) (h:dQ g m x=some p):∃B,u=.map (some B.b)/\g p.1=some p.2/\ι p.1=some B/\B.k=some (.map m)/\PZ P w D ι B m p.2:=by
 unfold dQ at h
 split at h
 ·rename_i i m'
  split at h
  ·rename_i hm
   subst hm
   simp only[Option.map_eq_some_iff]at h
   obtain⟨r,hg,rfl⟩:=h
   obtain⟨B,rfl,hB,hk⟩:=H6 hr
   obtain⟨B',eG,R,_⟩:=S.row i r hg
   rw[hB]at eG;injection eG with eG;subst eG
   exact⟨B,rfl,hg,hB,hk,(R.map _ hk).2⟩
  ·cases h
 ·cases h
theorem SV {t:TypeId} {x k:Operand} {ok:Bool} {m:MK} {z:K} {x' k':O} {mr:Option Row} (S:iD P hs D ι g w) (E:di P w D ι env a) (ho:o.op=.lookup t x k ok) (hc:u9 P t=some (m,z)) (hx:cO P x=some x') (hk:cO P k=some k')
  (hv:bH (.look m ok z) [du env x',du env k'] g id=some (v,mr)):mr=none/\qc P a o w D ι v:=by
 obtain⟨kt,e,i,zv,ht,hi,yM,Xt,hK⟩:=tN hc
 simp only[bH,Option.bind_eq_some_iff,Option.map_eq_some_iff,Prod.mk.injEq]at hv
 obtain⟨p,hp,fi,I8,y,hy,rfl,rfl⟩:=hv
 obtain⟨B,hu,hg,hB,xG,es,clock,hb,e9,hlen,hM⟩:=Ct S (ek E hx) hp
 obtain⟨RH,res,hf,hF⟩:=yy (B:=B) hK (ek E hk) e9 hM I8
 have key:∃val,(match res with|some (_,v)=>(v,true)|none=>(zv,false))=(val,fi.isSome)/\dy P w D ι y val:=by
  rcases hF with⟨rfl,rfl⟩|⟨j,en,rfl,he,rfl⟩
  ·simp only[dW,Option.some.injEq]at hy;subst hy
   refine⟨zv,rfl,?_⟩
   rw[Ci Xt];exact zl z
  ·simp only[dW,Option.bind_eq_some_iff,Nat.zero_add]at hy
   obtain⟨cs,eD,hy⟩:=hy
   obtain⟨e',kv,vv,q1,_,q3,_,q5⟩:=hM _ cs eD
   rw[hy]at q3;injection q3 with q3;subst q3
   have:e'=en:=by
    have h1:es.toList[j]? =some e':=by simpa using q1
    rw[he]at h1;injection h1 with h1;exact h1.symm
   subst this
   exact⟨_,rfl,q5⟩
 obtain⟨val,vH,mV⟩:=key
 have ji:(getObj B.b).run P w=.ok (.map es clock) w:=MapKept.run_getObj_map hb
 have hz:(zeroValue e).run P w=.ok zv w:=by simp[zeroValue,typeInfo,hi,yM]
 refine⟨rfl,if ok then .tuple #[val,.bool fi.isSome]else val,?_,?_⟩
 ·simp only[execOp,ho,hu,Instr.lookup,Sem.run_bind,run_underlying ht,Result.andThen_ok,ji,Sem.run_pure,RH,hf]
  rcases hF with⟨rfl,rfl⟩|⟨j,en,rfl,he,rfl⟩
  ·simp only[Prod.mk.injEq]at vH
   simp[hz,vH.1]
  ·simp only[Prod.mk.injEq]at vH
   simp[vH.1]
 ·cases ok with
  |false=>exact mV
  |true=>
   refine .ib _ _ (fun j=>if j=0 then val else .bool fi.isSome) rfl (fun j hj=>?_) (fun j b hj=>?_)
   ·have:j=0∨j=1:=by simp at hj;omega
    rcases this with rfl|rfl<;>rfl
   ·match j,hj with
    |0,hj=>simp at hj;subst hj;exact mV
    |1,hj=>simp at hj;subst hj;exact .fy _ _ (.bool _)
    |j+2,hj=>simp at hj
theorem SZ {t:TypeId} {x:Operand} {m:MK} {z:K} {x':O} {mr:Option Row} (S:iD P hs D ι g w) (E:di P w D ι env a) (ho:o.op=.call {callee:=.builtin .len,args:= #[x],argTypes:= #[t]}) (hc:u9 P t=some (m,z)) (hx:cO P x=some x')
  (hv:bH (.len m) [du env x'] g id=some (v,mr)):mr=none/\qc P a o w D ι v:=by
 obtain⟨kt,e,i,zv,ht,hi,yM,Xt,hK⟩:=tN hc
 simp only[bH,Option.map_eq_some_iff,Prod.mk.injEq]at hv
 obtain⟨p,hp,rfl,rfl⟩:=hv
 obtain⟨B,hu,hg,hB,xG,es,clock,hb,e9,hlen,hM⟩:=Ct S (ek E hx) hp
 have ji:(getObj B.b).run P w=.ok (.map es clock) w:=MapKept.run_getObj_map hb
 refine⟨rfl,.int .i64 (es.size:Int),?_,by rw[e9];exact .fy _ _ (.int _ _)⟩
 simp only[execOp,ho,resolve,Sem.run_bind,Sem.run_pure,Result.andThen_ok,invoke,builtin,Array.map,hu]
 simp[Builtin.len_,run_underlying ht,goInt,hu,ji]
def MkM (P:Program) (a:Act) (o:Oper) (w:World) (id:Id) (v:AV) (r:Row):Prop:=
 ∃m,(execOp a.eval o).run P w=.ok (.value (.map (some w.heap.size))) (w.alloc (.map #[] 0))/\v=.map id m/\r=⟨true,m.pU,[]⟩
theorem Wf {t:TypeId} {m:MK} (ho:o.op=.makeMap t none):MkM P a o w id (.map id m) ⟨true,m.pU,[]⟩:=by
 refine⟨m,?_,rfl,rfl⟩
 simp[execOp,ho,Instr.makeMap,go_sem]
def MkC (P:Program) (a:Act) (o:Oper) (w:World) (id:Id) (v:AV) (r:Row):Prop:=
 ∃n,(execOp a.eval o).run P w=.ok (.value (.chan (some w.heap.size))) (w.alloc (.chan n #[] false 0 0 false))/\v=.tQ id/\r=⟨true,tV+n,[]⟩
theorem Sh {t e:TypeId} {x:Operand} {x':O} {dir:ChanDir} {i:TypeInfo} {n:Nat} (E:di P w D ι env a) (ho:o.op=.makeChan t x) (ht:P.underlying t=some (.chan dir e)) (hi:P.info? e=some i) (hb:i.bytes<=32768) (hx:cO P x=some x') (hn:cZ (du env x')=some n):MkC P a o w id (.tQ id) ⟨true,tV+n,[]⟩:=by
 refine⟨n,?_,rfl,rfl⟩
 have hr:=ek E hx
 unfold cZ at hn
 split at hn
 ·rename_i k m hm
  rw[hm]at hr
  split at hn
  ·rename_i hc
   simp only[Option.some.injEq]at hn
   subst hn
   have Ce:((m.toNat:Nat):Int)=m:=ae
   have eM:(i.bytes:Int)*(m.toNat:Nat)<=281474976710544:=by
    have h1:i.bytes*m.toNat<=32768*1048576:=Nat.mul_le_mul hb ae
    have h2:((i.bytes*m.toNat:Nat):Int)<=281474976710544:=ae
    rwa [Int.natCast_mul]at h2
   have h:=Conc.run_makeChan (P:=P) (w:=w) ht hi k m.toNat ae eM
   rw[Ce]at h
   simp only[execOp,ho,ew hr,Sem.run_bind,h,Result.andThen_ok,Sem.run_pure]
  ·cases hn
 ·cases hn
theorem BS {x:AV} {u:Value} {i:Id} {r:Row} (S:iD P hs D ι g w) (hr:dy P w D ι x u) (hx:x=.tQ i) (hg:g i=some r):∃B c,u=.chan (some B.b)/\ι i=some B/\B.k=some (.chan c)/\r.sz=tV+c/\Kt P w D ι B c r:=by
 subst hx
 obtain⟨B,c,rfl,hB,hk⟩:=Pq hr
 obtain⟨B',eG,R,_⟩:=S.row i r hg
 rw[hB]at eG;injection eG with eG;subst eG
 exact⟨B,c,rfl,hB,hk,R.chan c hk⟩
theorem SR {t e:TypeId} {dir:ChanDir} {x:Operand} {x':O} (S:iD P hs D ι g w) (E:di P w D ι env a) (ho:o.op=.call {callee:=.builtin .len,args:= #[x],argTypes:= #[t]}) (ht:P.underlying t=some (.chan dir e)) (hx:cO P x=some x') (hv:cX g (du env x')=some v):qc P a o w D ι v:=by
 have hr:=ek E hx
 unfold cX at hv
 split at hv
 ·rename_i i he
  simp only[Option.map_eq_some_iff]at hv
  obtain⟨r,hg,rfl⟩:=hv
  obtain⟨B,c,hu,hB,hk,e9,buf,s,q,hb,Nw,_⟩:=BS S hr he hg
  have ji:(getObj B.b).run P w=.ok (.chan c buf false s q false) w:=by simp[getObj,Sem.run,hb]
  refine⟨.int .i64 (buf.size:Int),?_,by rw[Nw];exact .fy _ _ (.int _ _)⟩
  simp only[execOp,ho,resolve,Sem.run_bind,Sem.run_pure,Result.andThen_ok,invoke,builtin,Array.map,hu]
  simp[Builtin.len_,run_underlying ht,goInt,hu,ji]
 ·cases hv
end
end Go.Proofs.YtiabgllilcfheaaGreat.V

namespace Go.Proofs.YtiabgllilcfheaaGreat.V
open Go.RowKit
variable {P:Program} {w w':World} {D D':Nat->Prop} {ι ι':Names}
def NT (P:Program) (a:Act) (o:Oper) (w:World) (D:Nat->Prop) (ι:Names) (id:Id) (v:AV):Option Row->Prop
 |none=>qc P a o w D ι v
 |some r=>Mk P a o w D ι id v r∨MkM P a o w id v r∨MkC P a o w id v r
section
variable {g:Rows} {hs:Nat} {env:Env} {a:Act} {o:Oper} {id:Id} {v:AV}
theorem mK {x:Option AV} {mr:Option Row} (h:x.map (·,(none:Option Row))=some (v,mr)) (H:x=some v->qc P a o w D ι v):NT P a o w D ι id v mr:=by
 cases x with
 |none=>simp at h
 |some y=>simp at h;obtain⟨rfl,rfl⟩:=h;exact H rfl
theorem Wp {neg:Bool} {t yt:TypeId} {x y:Operand} {vo:iH} {mr:Option Row} (ho:o.op=.binOp (if neg then .neq else .eql) t x y yt) (hc:uZ P neg t x y=some vo) (hq:eR vo (du env) g id=some (v,mr)) (E:di P w D ι env a):NT P a o w D ι id v mr:=by
 unfold uZ at hc
 split at hc
 ·split at hc
  ·rename_i e ht
   simp only[Option.map_eq_some_iff]at hc
   obtain⟨x',hx,rfl⟩:=hc
   simp only[eR,ea,Bool.false_eq_true,if_false,Option.map_eq_some_iff,Prod.mk.injEq]at hq
   obtain⟨b,hb,rfl,rfl⟩:=hq
   exact SN E ho ht hx hb
  ·simp at hc
 ·split at hc
  ·rename_i ht
   simp only[Option.map_eq_some_iff]at hc
   obtain⟨x',hx,rfl⟩:=hc
   simp only[eR,ea,if_true,Option.map_eq_some_iff,Prod.mk.injEq]at hq
   obtain⟨b,hb,rfl,rfl⟩:=hq
   exact SM E ho ht hx hb
  ·simp at hc
 ·split at hc
  ·rename_i ht
   simp only[Option.map_eq_some_iff]at hc
   obtain⟨x',hx,rfl⟩:=hc
   simp only[eR,Option.map_eq_some_iff,Prod.mk.injEq]at hq
   obtain⟨b,hb,rfl,rfl⟩:=hq
   exact WL E ho ht hx hb
  ·simp at hc
 ·split at hc
  ·rename_i s hs
   simp only[Option.bind_eq_bind,Option.bind_eq_some_iff,Option.pure_def,Option.some.injEq]at hc
   obtain⟨x',hx,y',hy,rfl⟩:=hc
   simp only[eR,Option.map_eq_some_iff,Prod.mk.injEq]at hq
   obtain⟨b,hb,rfl,rfl⟩:=hq
   have Ee:gC P t=some s:=by
    unfold Yl at hs
    split at hs
    ·rename_i s' h;simp at hs;subst hs;exact h
    ·split at hs
     ·split at hs
      ·simp at hs
      ·simp at hs
     ·simp at hs
   exact WM E ho Ee hx hy hb
  ·rename_i ts hs
   simp only[Option.bind_eq_bind,Option.bind_eq_some_iff,Option.pure_def,Option.some.injEq]at hc
   obtain⟨x',hx,y',hy,rfl⟩:=hc
   simp only[eR]at hq
   split at hq
   ·rename_i xs ys h1 h2
    simp only[Option.map_eq_some_iff,Prod.mk.injEq]at hq
    obtain⟨b,hb,rfl,rfl⟩:=hq
    unfold Yl at hs
    split at hs
    ·simp at hs
    ·split at hs
     ·rename_i fs ua
      split at hs
      ·rename_i hg
       simp only[Option.map_eq_some_iff,X3.ag.injEq]at hs
       obtain⟨QE,z8,rfl⟩:=hs
       simp only[Bool.and_eq_true,Bool.not_eq_true']at hg
       exact WK E ho ua hg.1 hg.2 z8 hx hy h1 h2 hb
      ·simp at hs
     ·simp at hs
   ·simp at hq
  ·simp at hc
theorem Sp {c:Call} {vo:iH} {mr:Option Row} (ho:o.op=.call c) (hc:pg P c=some vo) (hq:eR vo (du env) g id=some (v,mr)) (S:iD P hs D ι g w) (E:di P w D ι env a):NT P a o w D ι id v mr:=by
 unfold pg at hc
 split at hc
 ·rename_i lL
  split at hc
  ·rename_i x t h1 h2
   have hce:c={callee:=.builtin .len,args:= #[x],argTypes:= #[t]}:=by
    obtain⟨a,b,c⟩:=c
    simp only at h1 h2 lL
    subst lL
    congr
    ·exact Array.ext' h1
    ·exact Array.ext' h2
   rw[hce]at ho
   split at hc
   ·rename_i e ht
    simp only[Option.map_eq_some_iff]at hc
    obtain⟨x',hx,rfl⟩:=hc
    simp only[eR,Option.map_eq_some_iff,Prod.mk.injEq]at hq
    obtain⟨n,hn,rfl,rfl⟩:=hq
    exact WN E ho ht hx hn
   ·rename_i ht
    simp only[Option.map_eq_some_iff]at hc
    obtain⟨x',hx,rfl⟩:=hc
    exact mK hq fun h=>SS E ho ht hx h
   ·split at hc
    ·rename_i m z x' hm hx
     simp only[Option.some.injEq]at hc
     subst hc
     obtain⟨rfl,h⟩:=SZ (id:=id) S E ho hm hx hq
     exact h
    ·cases hc
   ·rename_i ht
    simp only[Option.map_eq_some_iff]at hc
    obtain⟨x',hx,rfl⟩:=hc
    exact mK hq fun h=>SR S E ho ht hx h
   ·simp at hc
  ·simp at hc
 ·split at hc
  ·split at hc
   ·split at hc
    ·split at hc
     ·simp only[Option.bind_eq_bind,Option.bind_eq_some_iff,Option.pure_def,Option.some.injEq]at hc
      obtain⟨x',hx,y',hy,rfl⟩:=hc
      simp[eR]at hq
     ·simp at hc
    ·simp at hc
   ·simp at hc
  ·simp at hc
 ·split at hc
  ·split at hc
   ·split at hc
    ·simp only[Option.map_eq_some_iff]at hc
     obtain⟨x',hx,rfl⟩:=hc
     simp[eR]at hq
    ·simp at hc
   ·simp at hc
  ·simp at hc
 ·split at hc
  ·simp only[Option.map_eq_some_iff]at hc
   obtain⟨x',hx,rfl⟩:=hc
   simp[eR]at hq
  ·simp at hc
 ·simp only[Option.map_eq_some_iff]at hc
  obtain⟨x',hx,rfl⟩:=hc
  simp[eR]at hq
 ·split at hc
  ·split at hc
   ·simp only[Option.some.injEq]at hc
    subst hc
    simp[eR]at hq
   ·cases hc
  ·cases hc
 ·split at hc
  ·split at hc
   ·split at hc
    ·simp only[Option.bind_eq_bind,Option.bind_eq_some_iff,Option.pure_def,Option.some.injEq]at hc
     obtain⟨x',hx,y',hy,rfl⟩:=hc
     simp[eR]at hq
    ·simp at hc
   ·simp at hc
  ·simp at hc
 ·simp at hc
theorem Bn {vo:iH} {mr:Option Row} (hc:tx P o.op=some vo) (hq:eR vo (du env) g id=some (v,mr)) (S:iD P hs D ι g w) (E:di P w D ι env a):NT P a o w D ι id v mr:=by
 unfold tx at hc
 split at hc
 ·rename_i ho
  simp only[Option.map_eq_some_iff]at hc
  obtain⟨x',hx,rfl⟩:=hc
  simp[eR]at hq;obtain⟨rfl,rfl⟩:=hq
  exact QJ E (.inl ho) hx
 ·rename_i ho
  simp only[Option.map_eq_some_iff]at hc
  obtain⟨x',hx,rfl⟩:=hc
  simp[eR]at hq;obtain⟨rfl,rfl⟩:=hq
  exact QJ E (.inr ho) hx
 ·rename_i ho
  simp only[Option.bind_eq_bind,Option.bind_eq_some_iff,Option.pure_def,Option.some.injEq]at hc
  obtain⟨c',h1,x',h2,y',h3,rfl⟩:=hc
  exact mK hq fun h=>S3 E ho h1 h2 h3 h
 ·rename_i ho
  simp only[Option.map_eq_some_iff]at hc
  obtain⟨z,hz,rfl⟩:=hc
  simp only[eR,Option.some.injEq,Prod.mk.injEq]at hq
  obtain⟨rfl,rfl⟩:=hq
  exact .inl (Wg ho hz)
 ·rename_i ho
  simp only[Option.map_eq_some_iff]at hc
  obtain⟨x',hx,rfl⟩:=hc
  simp only[eR,Option.map_eq_some_iff,Prod.mk.injEq]at hq
  obtain⟨cs,eD,rfl,rfl⟩:=hq
  exact .inl (We E ho hx eD)
 ·rename_i ho
  simp only[Option.bind_eq_bind,Option.bind_eq_some_iff,Option.pure_def,Option.some.injEq]at hc
  obtain⟨ag,h1,n,h2,x',h3,rfl⟩:=hc
  exact mK hq fun h=>SU S E ho h1 h2 h3 h
 ·rename_i ho
  simp only[Option.bind_eq_bind,Option.bind_eq_some_iff,Option.pure_def,Option.some.injEq]at hc
  obtain⟨n,h2,x',h3,y',h4,rfl⟩:=hc
  simp[eR]at hq
 ·rename_i ho
  simp only[Option.map_eq_some_iff]at hc
  obtain⟨x',hx,rfl⟩:=hc
  exact mK hq fun h=>WJ E ho hx h
 ·rename_i op t x y yt ho
  unfold yg at hc
  split at hc
  ·exact Wp (neg:=false) ho hc hq E
  ·exact Wp (neg:=true) ho hc hq E
  ·simp only[Option.bind_eq_bind,Option.bind_eq_some_iff,Option.pure_def,Option.some.injEq]at hc
   obtain⟨x',h3,y',h4,rfl⟩:=hc
   exact mK hq fun h=>WR (left:=true) E ho h3 h4 h
  ·simp only[Option.bind_eq_bind,Option.bind_eq_some_iff,Option.pure_def,Option.some.injEq]at hc
   obtain⟨x',h3,y',h4,rfl⟩:=hc
   exact mK hq fun h=>WR (left:=false) E ho h3 h4 h
  ·rename_i n1 n2 n3 n4
   split at hc
   ·simp only[Option.bind_eq_bind,Option.bind_eq_some_iff,Option.pure_def,Option.some.injEq]at hc
    obtain⟨x',h3,y',h4,rfl⟩:=hc
    exact mK hq fun h=>WI E ho n1 n2 h3 h4 h
   ·simp only[Option.bind_eq_bind,Option.bind_eq_some_iff,Option.pure_def,Option.some.injEq]at hc
    obtain⟨x',h3,y',h4,rfl⟩:=hc
    exact mK hq fun h=>SK E ho n1 n2 h3 h4 h
   ·simp at hc
 ·rename_i ho
  simp only[Option.map_eq_some_iff]at hc
  obtain⟨x',hx,rfl⟩:=hc
  exact mK hq fun h=>WQ E ho hx h
 ·rename_i ho
  simp only[Option.map_eq_some_iff]at hc
  obtain⟨x',hx,rfl⟩:=hc
  exact mK hq fun h=>WO E ho hx h
 ·rename_i ho
  split at hc
  ·rename_i q k h1 h2
   simp only[Option.map_eq_some_iff]at hc
   obtain⟨x',hx,rfl⟩:=hc
   exact mK hq fun h=>SL E ho h1 h2 hx h
  ·rename_i h1 h2
   simp only[Option.map_eq_some_iff]at hc
   obtain⟨x',hx,rfl⟩:=hc
   exact mK hq fun h=>by
    have hr:=ek E hx
    unfold bY at h
    split at h
    ·rename_i s hb
     simp at h;subst h
     rw[hb]at hr
     exact⟨.string s,by simp only[execOp,ho,gM hr,convert,Sem.run_bind,run_underlying h1,run_underlying h2,Result.andThen_ok,Sem.run_pure],.fy _ _ (.str _)⟩
    ·simp at h
  ·simp at hc
 ·rename_i ho
  split at hc
  ·rename_i e ht
   simp only[Option.bind_eq_bind,Option.bind_eq_some_iff,Option.pure_def,Option.some.injEq]at hc
   obtain⟨n,h1,x',h2,lo,h3,hi,h4,rfl⟩:=hc
   exact mK hq fun h=>PK S E ho ht h1 h2 h3 h4 h
  ·rename_i ht
   simp only[Option.bind_eq_bind,Option.bind_eq_some_iff,Option.pure_def,Option.some.injEq]at hc
   obtain⟨x',h2,lo,h3,hi,h4,rfl⟩:=hc
   exact mK hq fun h=>M6 E ho ht h2 h3 h4 h
  ·simp at hc
 ·rename_i ho
  split at hc
  ·rename_i fs ua
   split at hc
   ·rename_i f hf
    split at hc
    ·rename_i m hm
     simp only[Option.map_eq_some_iff]at hc
     obtain⟨x',hx,rfl⟩:=hc
     exact mK hq fun h=>PH E ho ua hf hm hx h
    ·simp at hc
   ·simp at hc
  ·simp at hc
 ·rename_i ho
  split at hc
  ·rename_i fs ua
   split at hc
   ·rename_i f hf
    simp only[Option.bind_eq_bind,Option.bind_eq_some_iff,Option.pure_def,Option.some.injEq]at hc
    obtain⟨ag,h1,n,h2,x',h3,rfl⟩:=hc
    exact mK hq fun h=>PI E ho ua hf h1 h2 h3 h
   ·simp at hc
  ·simp at hc
 ·rename_i ho
  split at hc
  ·rename_i e ht
   split at hc
   ·rename_i m hm
    simp only[Option.bind_eq_bind,Option.bind_eq_some_iff,Option.pure_def,Option.some.injEq]at hc
    obtain⟨x',h1,i',h2,rfl⟩:=hc
    exact mK hq fun h=>PJ S E ho ht hm h1 h2 h
   ·simp at hc
  ·rename_i len e ht
   split at hc
   ·rename_i m hm
    simp only[Option.bind_eq_bind,Option.bind_eq_some_iff,Option.pure_def,Option.some.injEq]at hc
    obtain⟨x',h1,i',h2,rfl⟩:=hc
    exact mK hq fun h=>SO E ho ht hm h1 h2 h
   ·simp at hc
  ·simp at hc
 ·rename_i ho
  split at hc
  ·rename_i ht
   simp only[Option.bind_eq_bind,Option.bind_eq_some_iff,Option.pure_def,Option.some.injEq]at hc
   obtain⟨x',h1,i',h2,rfl⟩:=hc
   exact mK hq fun h=>SQ E ho ht h1 h2 h
  ·rename_i len e ht
   simp only[Option.bind_eq_bind,Option.bind_eq_some_iff,Option.pure_def,Option.some.injEq]at hc
   obtain⟨ag,h0,n,h1,x',h2,i',h3,rfl⟩:=hc
   exact mK hq fun h=>SP E ho ht h0 h1 h2 h3 h
  ·simp at hc
 ·rename_i ho
  simp only[Option.map_eq_some_iff]at hc
  obtain⟨x',hx,rfl⟩:=hc
  exact mK hq fun h=>Kb E ho hx h
 ·rename_i ho
  split at hc
  ·rename_i fs ua
   split at hc
   ·rename_i z l hz hl
    split at hc
    ·rename_i eP
     simp only[Option.map_eq_some_iff]at hc
     obtain⟨q,OI,rfl⟩:=hc
     simp only[eR,Option.map_eq_some_iff,Prod.mk.injEq]at hq
     obtain⟨cs,eD,rfl,rfl⟩:=hq
     exact PG E ho ua hz hl (fun f hf=>by
      rw[Array.all_eq_true_iff_forall_mem]at eP
      exact eP f (Array.mem_toList_iff.1 hf)) OI eD
    ·simp at hc
   ·simp at hc
  ·rename_i len e ht
   split at hc
   ·rename_i z l n hz hl hn
    simp only[Option.some.injEq]at hc
    subst hc
    simp only[eR,Option.map_eq_some_iff,Prod.mk.injEq]at hq
    obtain⟨cs,eD,rfl,rfl⟩:=hq
    exact M5 E ho ht hz hl hn eD
   ·simp at hc
  ·simp at hc
 ·rename_i ho
  split at hc
  ·rename_i e ht
   split at hc
   ·rename_i sz z l h1 h2 h3
    split at hc
    ·rename_i hh
     simp only[Option.some.injEq]at hc
     subst hc
     simp only[eR,Option.map_eq_some_iff,Prod.mk.injEq]at hq
     obtain⟨rs,AP,rfl,rfl⟩:=hq
     exact .inl (L4 E ho ht h1 h2 h3 hh.1 hh.2 (by rw[List.map_map]at AP;exact AP))
    ·simp at hc
   ·simp at hc
  ·simp at hc
 ·rename_i ho
  split at hc
  ·rename_i hh
   simp only[Option.map_eq_some_iff]at hc
   obtain⟨l,hl,rfl⟩:=hc
   simp[eR]at hq;obtain⟨rfl,rfl⟩:=hq
   exact SX E ho hh.1 hh.2 hl
  ·split at hc
   ·rename_i hh
    simp only[Option.map_eq_some_iff]at hc
    obtain⟨l,hl,rfl⟩:=hc
    simp[eR]at hq;obtain⟨rfl,rfl⟩:=hq
    exact SY E ho hh.1 hh.2 hl
   ·simp at hc
 ·rename_i ho
  split at hc
  ·rename_i e ht
   split at hc
   ·rename_i m z i h1 h2 h3
    split at hc
    ·rename_i hb
     simp only[Option.bind_eq_bind,Option.bind_eq_some_iff,Option.pure_def,Option.some.injEq]at hc
     obtain⟨l',h4,c',h5,rfl⟩:=hc
     simp only[eR,Option.map_eq_some_iff,Prod.mk.injEq]at hq
     obtain⟨⟨n,r⟩,hr,rfl,rfl⟩:=hq
     exact .inl (JB E ho ht h1 h2 h3 hb h4 h5 hr)
    ·simp at hc
   ·simp at hc
  ·simp at hc
 ·rename_i ho
  exact Sp ho hc hq S E
 ·rename_i ho
  split at hc
  ·rename_i dir e ht
   split at hc
   ·rename_i i hi
    split at hc
    ·rename_i hb
     simp only[Option.map_eq_some_iff]at hc
     obtain⟨x',hx,rfl⟩:=hc
     simp only[eR,Option.map_eq_some_iff,Prod.mk.injEq]at hq
     obtain⟨n,hn,rfl,rfl⟩:=hq
     exact .inr (.inr (Sh E ho ht hi hb hx hn))
    ·cases hc
   ·cases hc
  ·cases hc
 ·simp only[Option.bind_eq_bind,Option.bind_eq_some_iff,Option.pure_def,Option.some.injEq]at hc
  obtain⟨x',_,y',_,rfl⟩:=hc
  simp[eR]at hq
 ·split at hc
  ·split at hc
   ·simp only[Option.map_eq_some_iff]at hc
    obtain⟨x',_,rfl⟩:=hc
    simp[eR]at hq
   ·cases hc
  ·cases hc
 ·rename_i ho
  split at hc
  ·rename_i m z hm
   simp only[Option.some.injEq]at hc
   subst hc
   simp only[eR,List.map_nil,bH,Option.some.injEq,Prod.mk.injEq]at hq
   obtain⟨rfl,rfl⟩:=hq
   exact .inr (.inl (Wf ho))
  ·cases hc
 ·rename_i ho
  split at hc
  ·rename_i m z x' k' hm hx hk
   simp only[Option.some.injEq]at hc
   subst hc
   obtain⟨rfl,h⟩:=SV (id:=id) S E ho hm hx hk hq
   exact h
  ·cases hc
 ·split at hc
  ·simp only[Option.some.injEq]at hc
   subst hc
   simp[eR]at hq
  ·cases hc
 ·split at hc
  ·simp only[Option.some.injEq]at hc
   subst hc
   simp[eR]at hq
  ·cases hc
 ·simp only[Option.some.injEq]at hc
  subst hc
  simp[eR]at hq
 ·simp only[Option.some.injEq]at hc
  subst hc
  simp[eR]at hq
 ·simp at hc
end
end Go.Proofs.YtiabgllilcfheaaGreat.V

namespace Go.Proofs.YtiabgllilcfheaaGreat.V
open Go.RowKit
variable {P:Program} {w w':World} {D D':Nat->Prop} {ι ι':Names}
def lO (ι:Names) (id:Id) (B:uS):Names:=fun i=>if i=id then some B else ι i
theorem eV (ι:Names) (id:Id) (B:uS):lO ι id B id=some B:=if_pos rfl
theorem gm {ι:Names} {id:Id} {B:uS} (h:ι id=none):∀i B',ι i=some B'->lO ι id B i=some B':=fun i B' hi=>by
 have:i≠id:=by rintro rfl;rw[h]at hi;cases hi
 rw[lO,if_neg this];exact hi
theorem iA {ι:Names} {id i:Id} {B:uS} (h:i≠id):lO ι id B i=ι i:=if_neg h
section
variable {g:Rows} {hs:Nat} {env:Env} {a:Act} {o:Oper} {id:Id} {v:AV}
theorem mN.frame {B:uS} {r:Row} (h:mN P w D ι B r) (hb:w'.heap[B.b]? =w.heap[B.b]?) (hr:∀a v,dy P w D ι a v->dy P w' D' ι' a v):mN P w' D' ι' B r:=
 ⟨h.sz,by obtain⟨c,T,h1,h2⟩:=h.zQ;exact⟨c,T,hb.trans h1,h2⟩,h.fits,h.len,h.flat,fun i j cs a hi hj=>by
  obtain⟨v,h1,h2⟩:=h.at_ i j cs a hi hj
  exact⟨v,(World.cell?_of_block (a:=⟨B.b,i*r.sz+j,none⟩) hb).trans h1,hr _ _ h2⟩⟩
theorem jk.frame {B:uS} {r:Row} (h:jk P w D ι B r) (hb:w'.heap[B.b]? =w.heap[B.b]?) (hr:∀a v,dy P w D ι a v->dy P w' D' ι' a v):jk P w' D' ι' B r:=
 ⟨h.sz,h.flat,fun hk=>(h.row hk).frame hb hr,fun m hm=>by
  obtain⟨h1,es,c,h2,h3,h5,h4⟩:=h.map m hm
  refine⟨h1,es,c,hb.trans h2,h3,h5,fun i cs hi=>?_⟩
  obtain⟨e,kv,vv,q1,q2,q3,q4,q5⟩:=h4 i cs hi
  exact⟨e,kv,vv,q1,q2,q3,hr _ _ q4,hr _ _ q5⟩,fun c hc=>by
  obtain⟨h1,buf,s,q,h2,h3,h4⟩:=h.chan c hc
  refine⟨h1,buf,s,q,hb.trans h2,h3,fun i cs hi=>?_⟩
  obtain⟨a,u,q1,q2,q3⟩:=h4 i cs hi
  exact⟨a,u,q1,q2,hr _ _ q3⟩⟩
theorem iD.kill (S:iD P hs D ι g w) (i:Id):iD P hs D ι (cq g i) w:=by
 refine⟨S.lo,S.dead,fun id r h=>?_,fun id kV r r' B B' h h' hw hB eG hb=>?_⟩
 ·unfold cq at h;split at h
  ·cases h
  ·exact S.row id r h
 ·unfold cq at h h'
  split at h
  ·cases h
  ·split at h'
   ·cases h'
   ·exact S.inj id kV r r' B B' h h' hw hB eG hb
theorem iD.sub {g':Rows} (S:iD P hs D ι g w) (h:∀id r,g' id=some r->g id=some r):iD P hs D ι g' w:=
 ⟨S.lo,S.dead,fun id r hr=>S.row id r (h id r hr),fun id kV r r' B B' h1 h2=>S.inj id kV r r' B B' (h _ _ h1) (h _ _ h2)⟩
theorem CU {hid:List Nat} {n:Nat} {g:Rows}:∀id r,fK hid n g id=some r->g id=some r:=fun id r h=>by
 cases hid with
 |nil=>exact h
 |cons a l=>
  have e:fK (a::l) n g id=if (a::l).contains id.site=true/\id.bt=n then none else g id:=rfl
  rw[e]at h
  by_cases hc:(a::l).contains id.site=true/\id.bt=n
  ·rw[if_pos hc]at h;cases h
  ·rw[if_neg hc]at h;exact h
theorem iD.stay (S:iD P hs D ι g w) (hb:∀b,b<w.heap.size->w'.heap[b]? =w.heap[b]?) (hz:w.heap.size<=w'.heap.size) (hD:∀b,D b->D' b) (hD':∀b,D' b->b<w'.heap.size) (lG:∀b,D' b->D b∨w.heap.size<=b) (hι:∀id B,ι id=some B->ι' id=some B):iD P hs D' ι' g w':=by
 have hr:∀a v,dy P w D ι a v->dy P w' D' ι' a v:=fun a v h=>h.frame (fun b hd=>hb b (S.dead b hd)) hD hι
 have lt:∀{id r B},g id=some r->ι id=some B->B.b<w.heap.size:=fun {id r B} h hB=>by
  obtain⟨B',eG,R,_⟩:=S.row id r h
  rw[hB]at eG;injection eG with eG;subst eG
  exact R.lt
 refine⟨Nat.le_trans S.lo hz,hD',fun id r h=>?_,fun id kV r r' B B' h h' hw hB eG he=>?_⟩
 ·obtain⟨B,hB,R,h1,h2⟩:=S.row id r h
  exact⟨B,hι _ _ hB,R.frame (hb _ (lt h hB)) hr,h1,fun hw hd=>by
   rcases lG _ hd with hd|hd
   ·exact h2 hw hd
   ·have:=lt h hB;omega⟩
 ·obtain⟨C,hC,_⟩:=S.row id r h
  obtain⟨C',xj,_⟩:=S.row kV r' h'
  have e1:=hι _ _ hC
  have e2:=hι _ _ xj
  rw[hB]at e1;injection e1 with e1;subst e1
  rw[eG]at e2;injection e2 with e2;subst e2
  exact S.inj id kV r r' _ _ h h' hw hC xj he
theorem Step.stay (S:iD P hs D ι g w) (hb:∀b,b<w.heap.size->w'.heap[b]? =w.heap[b]?) (hz:w.heap.size<=w'.heap.size) (e1:w'.os=w.os) (e2:w'.tape=w.tape) (e3:w'.output=w.output) (hD:∀b,D b->D' b) (lG:∀b,D' b->D b∨w.heap.size<=b) (hι:∀id B,ι id=some B->ι' id=some B):Step hs D ι w D' ι' w':=
 ⟨⟨e1,e2,e3,hz,fun k hk=>hb k (Nat.lt_of_lt_of_le hk S.lo)⟩,fun b hd=>hb b (S.dead b hd),hD,hι,fun b h=>(lG b h).imp_right (Nat.le_trans S.lo)⟩
theorem iD.alloc (S:iD P hs D ι g w) {cells:Array Value} {T:TypeId} {r:Row} (hh:w'.heap=w.heap.push (.cells cells T (0,0))) (hn:ι id=none) (hw:r.w=true) (h1:r.rows.length*r.sz<=cells.size) (h2:∀cs∈r.rows,cs.length=r.sz) (h3:∀cs∈r.rows,∀a∈cs,a.cell=true)
  (h4:∀i j cs a,r.rows[i]? =some cs->cs[j]? =some a->∃x,cells[i*r.sz+j]? =some x/\dy P w D ι a x):iD P hs D (lO ι id ⟨w.heap.size,r.sz,cells.size,none⟩) (bK g id r) w':=by
 have hb:∀b,b<w.heap.size->w'.heap[b]? =w.heap[b]? :=fun b eM=>by rw[hh,Array.getElem?_push,if_neg ae]
 have hz:w.heap.size<=w'.heap.size:=by rw[hh];simp
 have S':=S.stay (D':=D) (ι':=lO ι id ⟨w.heap.size,r.sz,cells.size,none⟩) hb hz (fun _ h=>h) (fun b hd=>Nat.lt_of_lt_of_le (S.dead b hd) hz) (fun _ h=>.inl h) (gm hn)
 have hr:∀a v,dy P w D ι a v->dy P w' D (lO ι id ⟨w.heap.size,r.sz,cells.size,none⟩) a v:=fun a v h=>h.frame (fun b hd=>hb b (S.dead b hd)) (fun _ h=>h) (gm hn)
 have lG:w'.heap[w.heap.size]? =some (.cells cells T (0,0)):=by rw[hh];simp
 have gone:g id=none:=by
  cases hg:g id with
  |none=>rfl
  |some q=>
   obtain⟨B,hB,_⟩:=S.row id q hg
   rw[hn]at hB;cases hB
 have lt:∀{i q B},g i=some q->ι i=some B->B.b<w.heap.size:=fun {i q B} h hB=>by
  obtain⟨B',eG,R,_⟩:=S.row i q h
  rw[hB]at eG;injection eG with eG;subst eG
  exact R.lt
 refine⟨S'.lo,S'.dead,fun i q h=>?_,fun i i' q q' B B' h h' LD hB eG he=>?_⟩
 ·unfold bK at h
  split at h
  ·rename_i e
   subst e
   injection h with h;subst h
   refine⟨_,eV _ _ _,mN.obj ⟨rfl,⟨cells,T,lG,rfl⟩,h1,h2,h3,fun k j cs a hk hj=>?_⟩ rfl,fun _=>S.lo,fun _ hd=>?_⟩
   ·obtain⟨x,hx,hrx⟩:=h4 k j cs a hk hj
    exact⟨x,by simp[World.cell?,lG,hx],hr _ _ hrx⟩
   ·have:=S.dead _ hd;simp at this
  ·exact S'.row i q h
 ·unfold bK at h h'
  split at h
  ·rename_i e
   split at h'
   ·rename_i e';exact e.trans e'.symm
   ·exfalso
    rename_i e'
    subst e
    rw[eV]at hB;injection hB with hB;subst hB
    rw[iA e']at eG
    have:=lt h' eG
    simp at he;omega
  ·rename_i e
   split at h'
   ·exfalso
    rename_i e'
    subst e'
    rw[eV]at eG;injection eG with eG;subst eG
    rw[iA e]at hB
    have:=lt h hB
    simp at he;omega
   ·exact S'.inj i i' q q' B B' h h' LD hB eG he
theorem iD.put (S:iD P hs D ι g w) {r r':Row} {B:uS} {cur cur':Array Value} {T:TypeId} (hid:g id=some r) (hw:r.w=true) (hB:ι id=some B) (hblk:w.heap[B.b]? =some (.cells cur T (0,0))) (e9:cur'.size=cur.size)
  (h0:r'.w=true) (h1:r'.sz=r.sz) (h2:r'.rows.length*r'.sz<=B.C) (h3:∀cs∈r'.rows,cs.length=r'.sz) (h4:∀cs∈r'.rows,∀a∈cs,a.cell=true)
  (h5:∀i j cs a,r'.rows[i]? =some cs->cs[j]? =some a->∃v,cur'[i*r.sz+j]? =some v/\dy P w D ι a v):iD P hs D ι (bK g id r') (w.setRow B.b cur')/\Step hs D ι w D ι (w.setRow B.b cur'):=by
 obtain⟨B0,DX,RO,kI,re⟩:=S.row id r hid
 rw[hB]at DX;injection DX with DX;subst DX
 have xk:=RO.Pb hblk
 have R:=RO.row xk
 have hd:∀b,D b->(w.setRow B.b cur').heap[b]? =w.heap[b]? :=fun b hb=>setRow_other w B.b b cur' (by rintro rfl;exact re hw hb)
 have hr:∀a v,dy P w D ι a v->dy P (w.setRow B.b cur') D ι a v:=fun a v h=>h.frame hd (fun _ h=>h) (fun _ _ h=>h)
 have hC:cur.size=B.C:=by
  obtain⟨c,T',h1,h2⟩:=R.zQ
  rw[hblk]at h1;injection h1 with h1;injection h1 with h1 Rm;subst h1;exact h2
 refine⟨⟨by simpa using S.lo,fun b hb=>by simpa using S.dead b hb,fun i q h=>?_,fun i i' q q' C C' h h' LD hC xj he=>?_⟩,⟨⟨by simp,by simp,by simp,by simp,fun k hk=>setRow_other w B.b k cur' (by have:=kI hw;omega)⟩,hd,fun _ h=>h,fun _ _ h=>h,fun _ h=>.inl h⟩⟩
 ·unfold bK at h
  split at h
  ·rename_i e
   subst e
   injection h with h;subst h
   refine⟨B,hB,mN.obj ⟨by rw[h1];exact R.sz,⟨cur',T,setRow_heap w B.b cur cur' T _ hblk,by rw[e9];exact hC⟩,h2,h3,h4,fun k j cs a hk hj=>?_⟩ xk,fun _=>kI hw,fun _=>re hw⟩
   obtain⟨v,hv,mV⟩:=h5 k j cs a hk hj
   exact⟨v,by rw[cell_setRow_same w B.b _ cur cur' T _ hblk,h1];exact hv,hr _ _ mV⟩
  ·rename_i e
   obtain⟨C,hC,RC,k1,k2⟩:=S.row i q h
   refine⟨C,hC,RC.frame (setRow_other w B.b C.b cur' (fun Kj=>e ?_)) hr,k1,k2⟩
   exact(S.inj id i r q B C hid h hw hB hC Kj.symm).symm
 ·unfold bK at h h'
  have get:∀j p,(if j=id then some r' else g j)=some p->∃p0,g j=some p0/\(p.w=true->p0.w=true):=fun j p hp=>by
   split at hp
   ·rename_i e;subst e;injection hp with hp;subst hp;exact⟨r,hid,fun _=>hw⟩
   ·exact⟨p,hp,fun h=>h⟩
  obtain⟨p,hp,Uy⟩:=get _ _ h
  obtain⟨p',RV,_⟩:=get _ _ h'
  exact S.inj i i' p p' C C' hp RV (Uy LD) hC xj he
theorem iD.rename (S:iD P hs D ι g w) {i:Id} {r:Row} {B:uS} (hi:g i=some r) (hw:r.w=true) (hB:ι i=some B) (hn:ι id=none):iD P hs D (lO ι id B) (bK (cq g i) id r) w:=by
 have S':=S.stay (w':=w) (D':=D) (ι':=lO ι id B) (fun _ _=>rfl) (Nat.le_refl _) (fun _ h=>h) S.dead (fun _ h=>.inl h) (gm hn)
 have iN:i≠id:=by rintro rfl;rw[hn]at hB;cases hB
 obtain⟨B1,C6,R,k1,k2⟩:=S'.row i r hi
 rw[iA iN,hB]at C6;injection C6 with C6;subst C6
 have get:∀j p,bK (cq g i) id r j=some p->(j=id/\p=r)∨(j≠id/\j≠i/\g j=some p):=fun j p hp=>by
  unfold bK cq at hp
  split at hp
  ·rename_i e;injection hp with hp;exact .inl ⟨e,hp.symm⟩
  ·rename_i e
   split at hp
   ·cases hp
   ·rename_i e';exact .inr ⟨e,e',hp⟩
 refine⟨S.lo,S.dead,fun j p h=>?_,fun j j' p p' C C' h h' Uy hC xj he=>?_⟩
 ·rcases get j p h with⟨rfl,rfl⟩|⟨_,_,hp⟩
  ·exact⟨B,eV _ _ _,R,k1,k2⟩
  ·exact S'.row j p hp
 ·rcases get j p h with⟨rfl,rfl⟩|⟨q1,q2,hp⟩
  ·rcases get j' p' h' with⟨rfl,rfl⟩|⟨q1',q2',RV⟩
   ·rfl
   ·exfalso
    rw[eV]at hC;injection hC with hC;subst hC
    rw[iA q1']at xj
    exact q2' (S.inj i j' p p' B C' hi RV hw hB xj he).symm
  ·rcases get j' p' h' with⟨rfl,rfl⟩|⟨q1',q2',RV⟩
   ·exfalso
    rw[eV]at xj;injection xj with xj;subst xj
    rw[iA q1]at hC
    exact q2 (S.inj j i p p' C B hp hi Uy hC hB he)
   ·rw[iA q1]at hC
    rw[iA q1']at xj
    exact S.inj j j' p p' C C' hp RV Uy hC xj he
def Fy (P:Program) (hs:Nat) (a:Act) (o:Oper) (w:World) (D:Nat->Prop) (ι:Names) (id:Id) (v:AV) (g':Rows):Prop:=
 ∃u w' ι',((execOp a.eval o).run P w=.ok (.value u) w'∨(execOp a.eval o).run P w=.ok .skip w'/\u=undef)/\Step hs D ι w D ι' w'/\iD P hs D ι' g' w'/\dy P w' D ι' v u/\∀i,i≠id->ι' i=ι i
theorem EY {xs:List AV} {vs:Array Value} (h:gy P w D ι xs vs) (hf:∀a∈xs,a.cell=true):∀v∈vs.toList,v.oneCell'=true:=by
 intro v hv
 obtain⟨j,hj,rfl⟩:=List.getElem_of_mem hv
 have NC:j<xs.length:=by rw[<-h.1];simpa using hj
 obtain⟨u,hu,hr⟩:=h.2 j _ (List.getElem?_eq_getElem NC)
 have hc:=hr.Dx (hf _ (List.getElem_mem NC))
 have:vs.toList[j]=u:=by
  have:vs.toList[j]? =some u:=by simpa using hu
  rw[List.getElem?_eq_getElem hj]at this;injection this
 rw[this]
 cases u<;>simp_all [Value.oneCell']
theorem kN {i j n m:Nat} (h:i<n) (hj:j<m):i*m+j<n*m:=by
 have:(i+1)*m<=n*m:=Nat.mul_le_mul_right _ h
 rw[Nat.add_mul,Nat.one_mul]at this;omega
theorem mN.cur {B:uS} {r:Row} (R:mN P w D ι B r):∃cur T,w.heap[B.b]? =some (.cells cur T (0,0))/\cur.size=B.C/\∀i j cs a,r.rows[i]? =some cs->cs[j]? =some a->∃v,cur[i*r.sz+j]? =some v/\dy P w D ι a v:=by
 obtain⟨cur,T,h1,h2⟩:=R.zQ
 refine⟨cur,T,h1,h2,fun i j cs a hi hj=>?_⟩
 obtain⟨v,hv,hr⟩:=R.at_ i j cs a hi hj
 exact⟨v,by simpa[World.cell?,h1]using hv,hr⟩
theorem Od {t:TypeId} {n:Nat} {x y:Operand} {x' y':O} {g':Rows} (S:iD P hs D ι g w) (E:di P w D ι env a) (ho:o.op=.store t x y) (hn:eX P t=some n) (hx:cO P x=some x') (hy:cO P y=some y')
  (hv:bW g n (du env y') (du env x')=some g'):Fy P hs a o w D ι id .undef g':=by
 have rx:=ek E hx
 have ry:=ek E hy
 unfold bW at hv
 split at hv
 ·rename_i i k off hp
  rw[hp]at rx
  simp only[Option.bind_eq_some_iff]at hv
  obtain⟨r,hg,cs,eD,hv⟩:=hv
  split at hv
  ·rename_i hc
   obtain⟨c1,c2,c3,c4⟩:=hc
   simp at hv;subst hv
   obtain⟨B,he,hB,hk⟩:=jy rx
   obtain⟨B',eG,R,kI,re⟩:=S.row i r hg
   rw[hB]at eG;injection eG with eG;subst eG
   replace R:=R.row hk
   obtain⟨cur,T,hblk,hC,yF⟩:=R.cur
   have hL:=tr ry c3
   have h1:=EY hL (List.all_eq_true.1 c3)
   have OM:(a.eval y).cells.size=n:=by rw[hL.1,c2]
   have mU:=(List.getElem?_eq_some_iff.1 eD).1
   have hlen:=R.len cs (List.mem_of_getElem? eD)
   have hbound:k*r.sz+r.sz<=r.rows.length*r.sz:=by
    have:(k+1)*r.sz<=r.rows.length*r.sz:=Nat.mul_le_mul_right _ mU
    rwa [Nat.add_mul,Nat.one_mul]at this
   have hf:=R.fits
   have ev:=run_storeCells_at P B.b (k*B.sz+off) T (a.eval y).cells.toList 0 cur w hblk (by rw[R.sz];simp only[Array.length_toList];omega) h1
   simp only[Nat.add_zero,Array.length_toList]at ev
   have yJ:=S.put (r':={r with rows:=r.rows.set k (cL cs off (du env y').cells)}) hg c1 hB hblk (cur':=(cur.toList.take (k*B.sz+off)++(a.eval y).cells.toList++cur.toList.drop (k*B.sz+off+(a.eval y).cells.size)).toArray)
    (by rw[R.sz];simp;omega) c1 rfl (by simpa using R.fits) (fun c YS=>by
     rcases List.mem_or_eq_of_mem_set YS with h|rfl
     ·exact R.len c h
     ·simp[cL];omega) (fun c YS b hb=>by
     rcases List.mem_or_eq_of_mem_set YS with h|rfl
     ·exact R.flat c h b hb
     ·unfold cL at hb
      rcases List.mem_append.1 hb with hb|hb
      ·rcases List.mem_append.1 hb with hb|hb
       ·exact R.flat cs (List.mem_of_getElem? eD) b (List.mem_of_mem_take hb)
       ·exact List.all_eq_true.1 c3 b hb
      ·exact R.flat cs (List.mem_of_getElem? eD) b (List.mem_of_mem_drop hb)) (fun i2 j c b xI hj=>by
     rw[R.sz]
     simp only[List.getElem?_toArray]
     by_cases AM:i2=k
     ·subst AM
      rw[List.getElem?_set_self mU]at xI
      injection xI with xI;subst xI
      unfold cL at hj
      by_cases hjo:j<off
      ·rw[List.append_assoc,List.getElem?_append_left (by simp;omega),List.getElem?_take,if_pos hjo]at hj
       rw[List.append_assoc,List.getElem?_append_left (by simp;omega),List.getElem?_take,if_pos ae]
       simpa using yF _ _ _ _ eD hj
      ·by_cases oi:j<off+n
       ·rw[List.append_assoc,List.getElem?_append_right (by simp;omega),List.getElem?_append_left (by simp;omega)]at hj
        rw[List.append_assoc,List.getElem?_append_right (by simp;omega),List.getElem?_append_left (by simp;omega)]
        simp only[List.length_take]at hj ⊢
        rw[show j-min off cs.length=j-off by omega]at hj
        rw[show i2*r.sz+j-min (i2*r.sz+off) cur.toList.length=j-off by simp;omega]
        simpa using hL.2 _ _ hj
       ·rw[List.getElem?_append_right (by simp;omega)]at hj
        rw[List.getElem?_append_right (by simp;omega)]
        simp only[List.length_append,List.length_take,List.getElem?_drop,Array.length_toList]at hj ⊢
        rw[show off+(du env y').cells.length+(j-(min off cs.length+(du env y').cells.length))=j by omega]at hj
        rw[show i2*r.sz+off+(a.eval y).cells.size+(i2*r.sz+j-(min (i2*r.sz+off) cur.size+(a.eval y).cells.size))=i2*r.sz+j by omega]
        simpa using yF _ _ _ _ eD hj
     ·rw[List.getElem?_set_ne (fun e=>AM e.symm)]at xI
      have hi2l:=(List.getElem?_eq_some_iff.1 xI).1
      have iv:j<r.sz:=by rw[<-R.len c (List.mem_of_getElem? xI)];exact(List.getElem?_eq_some_iff.1 hj).1
      have:=yF _ _ _ _ xI hj
      rcases Nat.lt_or_gt_of_ne AM with eM|Ow
      ·have h2:i2*r.sz+j<k*r.sz:=kN eM iv
       rw[List.append_assoc,List.getElem?_append_left (by simp;omega),List.getElem?_take,if_pos ae]
       simpa using this
      ·have h2:k*r.sz+r.sz<=i2*r.sz:=by
        have:(k+1)*r.sz<=i2*r.sz:=Nat.mul_le_mul_right _ Ow
        rwa [Nat.add_mul,Nat.one_mul]at this
       rw[List.getElem?_append_right (by simp;omega)]
       simp only[List.length_append,List.length_take,List.getElem?_drop,Array.length_toList]
       rw[show k*r.sz+off+(a.eval y).cells.size+(i2*r.sz+j-(min (k*r.sz+off) cur.size+(a.eval y).cells.size))=i2*r.sz+j by omega]
       simpa using this)
   refine⟨undef,_,ι,.inr ⟨?_,rfl⟩,yJ.2,yJ.1,dy.undef,fun _ _=>rfl⟩
   simp only[execOp,ho,he,Instr.storeAt,Instr.sureAddr,storeVar,Sem.run_bind,Sem.run_pure,Result.andThen_ok,run_sizeOf hn,OM,ne_eq,not_true_eq_false,if_false,ev]
  ·simp at hv
 ·simp at hv
end
end Go.Proofs.YtiabgllilcfheaaGreat.V

namespace Go.Proofs.YtiabgllilcfheaaGreat.V
open Go.RowKit
variable {P:Program} {w w':World} {D D':Nat->Prop} {ι ι':Names}
section
variable {g:Rows} {hs:Nat} {env:Env} {a:Act} {o:Oper} {id:Id} {v:AV}
theorem uy (S:iD P hs D ι g w) {y:AV} {u:Value} {ys:List (List AV)} {sz:Nat} (hr:dy P w D ι y u) (hy:bD g y=some ys) (hl:∀c∈ys,c.length=sz) (hf:∀c∈ys,∀b∈c,b.cell=true):
  ∃A c,u=.slice A ys.length c/\(ys=[]∨∃b o,∃news:List Value,A=some ⟨b,o,none⟩/\news.length=ys.length*sz/\(∀j v,news[j]? =some v->w.cell? ⟨b,o+j,none⟩=some v)/\gy P w D ι ys.flatten news.toArray/\∀v∈news,v.oneCell'=true):=by
 have fin:∀b o,ys≠[]->(∀i j cs x,ys[i]? =some cs->cs[j]? =some x->∃v,w.cell? ⟨b,o+(i*sz+j),none⟩=some v/\dy P w D ι x v)->
   ∃news:List Value,news.length=ys.length*sz/\(∀j v,news[j]? =some v->w.cell? ⟨b,o+j,none⟩=some v)/\gy P w D ι ys.flatten news.toArray/\∀v∈news,v.oneCell'=true:=by
  intro b o _ h
  have hlen:=K7 hl
  have at_:∀k,k<ys.length*sz->∃x,ys.flatten[k]? =some x/\∃v,w.cell? ⟨b,o+k,none⟩=some v/\dy P w D ι x v:=by
   intro k hk
   have lH:0<sz:=by
    rcases Nat.eq_zero_or_pos sz with h0|h0
    ·subst h0;simp at hk
    ·exact h0
   have hi:k / sz<ys.length:=Nat.div_lt_of_lt_mul (by rw[Nat.mul_comm];exact hk)
   have hj:k % sz<sz:=Nat.mod_lt _ lH
   have eD:=List.getElem?_eq_getElem hi
   have iv:k % sz<ys[k / sz].length:=by rw[hl _ (List.getElem_mem hi)];exact hj
   have hx:=List.getElem?_eq_getElem iv
   have e:k / sz*sz+k % sz=k:=by rw[Nat.mul_comm];exact Nat.div_add_mod _ _
   refine⟨_,by rw[<-flat_get hl eD hx,e],?_⟩
   obtain⟨v,hv,mV⟩:=h _ _ _ _ eD hx
   rw[e]at hv
   exact⟨v,hv,mV⟩
  let news:=(List.range (ys.length*sz)).map fun k=>(w.cell? ⟨b,o+k,none⟩).getD undef
  have hn:∀k,k<ys.length*sz->∀v,w.cell? ⟨b,o+k,none⟩=some v->news[k]? =some v:=fun k hk v hv=>by
   simp only[news,List.getElem?_map,List.getElem?_range hk,Option.map_some,hv,Option.getD_some]
  have hR:gy P w D ι ys.flatten news.toArray:=⟨by simp[news,hlen],fun j x hx=>by
   have iv:=(List.getElem?_eq_some_iff.1 hx).1
   rw[hlen]at iv
   obtain⟨x',uR,v,hv,mV⟩:=at_ j iv
   rw[hx]at uR;injection uR with uR;subst uR
   exact⟨v,by simpa using hn j iv v hv,mV⟩⟩
  refine⟨news,by simp[news],fun j v hj=>?_,hR,?_⟩
  ·have iv:j<ys.length*sz:=by have:=(List.getElem?_eq_some_iff.1 hj).1;simpa[news]using this
   obtain⟨x,_,v',pM,_⟩:=at_ j iv
   rw[hn j iv v' pM]at hj
   injection hj with hj
   rw[<-hj];exact pM
  ·have:=EY hR (fun x hx=>by
    obtain⟨c,hc,ZO⟩:=List.mem_flatten.1 hx
    exact hf c hc x ZO)
   simpa using this
 unfold bD at hy
 split at hy
 ·simp at hy;subst hy
  exact⟨none,0,lu hr,.inl rfl⟩
 ·rename_i rows
  simp at hy;subst hy
  obtain⟨A,c,he,_,_,h3⟩:=zo hr
  refine⟨A,c,he,?_⟩
  rcases h3 with h3|⟨b,oo,sz',vs,rfl,hD,NG,_,hc,hi⟩
  ·exact .inl h3
  ·by_cases h0:rows=[]
   ·exact .inl h0
   ·have Ee:sz'=sz:=by
     cases rows with
     |nil=>exact(h0 rfl).elim
     |cons c r=>rw[<-NG c (by simp),hl c (by simp)]
    subst Ee
    obtain⟨news,q1,q2,q3,q4⟩:=fin b oo h0 (fun i j cs x eD hx=>⟨_,hc i j (List.getElem?_eq_some_iff.1 eD).1 (by rw[<-NG cs (List.mem_of_getElem? eD)];exact(List.getElem?_eq_some_iff.1 hx).1),.fy _ _ (hi i j cs x eD hx)⟩)
    exact .inr ⟨b,oo,news,rfl,q1,q2,q3,q4⟩
 ·rename_i i off len
  simp only[Option.bind_eq_some_iff]at hy
  obtain⟨r,hg,hy⟩:=hy
  split at hy
  ·rename_i hle
   simp at hy;subst hy
   obtain⟨oo,cap,B,he,hB,h1,h2,h3,h4,hk⟩:=jO hr
   obtain⟨B',eG,R,_,_⟩:=S.row i r hg
   rw[hB]at eG;injection eG with eG;subst eG
   replace R:=R.row hk
   have hlen:((r.rows.drop off).take len).length=len:=by simp;omega
   refine⟨some ⟨B.b,oo,none⟩,cap,by rw[hlen];exact he,?_⟩
   by_cases h0:(r.rows.drop off).take len=[]
   ·exact .inl h0
   ·have Ee:r.sz=sz:=by
     cases hq:(r.rows.drop off).take len with
     |nil=>exact(h0 hq).elim
     |cons c q=>
      have hm:c∈(r.rows.drop off).take len:=by rw[hq];simp
      rw[<-hl c hm,R.len c (List.mem_of_mem_drop (List.mem_of_mem_take hm))]
    have hlp:0<len:=by rw[<-hlen];exact List.length_pos_iff.2 h0
    have C5:oo=off*B.sz:=by rcases h2 with h2|h2<;>omega
    obtain⟨news,q1,q2,q3,q4⟩:=fin B.b oo h0 (fun i2 j cs x eD hx=>by
     rw[List.getElem?_take]at eD
     split at eD
     ·rw[List.getElem?_drop]at eD
      obtain⟨v,hv,mV⟩:=R.at_ _ _ _ _ eD hx
      refine⟨v,?_,mV⟩
      rw[C5,R.sz,<-Ee]
      rw[Nat.add_mul]at hv
      rw[<-Nat.add_assoc]
      exact hv
     ·simp at eD)
    exact .inr ⟨B.b,oo,news,rfl,q1,q2,q3,q4⟩
  ·simp at hy
 ·simp at hy
theorem qO {t ty e:TypeId} {i:TypeInfo} (ht:P.underlying t=some (.slice e)) (hi:P.info? e=some i) (A:Option Addr) (n c:Nat) (hn:n<=c) (B:Option Addr) (d:Nat):
  (Builtin.append_ #[t,t] ty #[.slice A n c,.slice B 0 d]).run P w=.ok (.slice A n c) w:=by
 have hf:(Builtin.firstCells i.size 0 (.slice B 0 d)).run P w=.ok #[] w:=by
  cases B<;>simp[Builtin.firstCells,loadCells,loadCellsFrom]
 cases A with
 |none=>simp[Builtin.append_,run_underlying ht,sizeOf,typeInfo,hi,Builtin.lenOf,hn,hf]
 |some A=>simp[Builtin.append_,run_underlying ht,sizeOf,typeInfo,hi,Builtin.lenOf,hn,hf,storeCells]
theorem Ah {t ty e T:TypeId} {i:TypeInfo} (ht:P.underlying t=some (.slice e)) (hi:P.info? e=some i) (b uB GQ:Nat) (cur:Array Value) (hg:w.heap[b]? =some (.cells cur T (0,0)))
  (x:Addr) (m c:Nat) (news:List Value) (hl:news.length=m*i.size) (VO:∀j u,news[j]? =some u->w.cell? (x.add j)=some u) (h1:∀u∈news,u.oneCell'=true)
  (ik:uB+m<=GQ) (zX:uB*i.size+news.length<=cur.size):
  (Builtin.append_ #[t,t] ty #[.slice (some ⟨b,0,none⟩) uB GQ,.slice (some x) m c]).run P w=
   .ok (.slice (some ⟨b,0,none⟩) (uB+m) GQ) (w.setRow b (cur.toList.take (uB*i.size)++news++cur.toList.drop (uB*i.size+news.length)).toArray):=by
 have hf:=run_firstCells_some (P:=P) w i.size m x m c news hl VO
 have ev:=run_storeCells_at P b (uB*i.size) T news 0 cur w hg (by simpa using zX) h1
 simp only[Nat.add_zero]at ev
 simp[Builtin.append_,run_underlying ht,sizeOf,typeInfo,hi,Builtin.lenOf,ik,hf,lE,ev]
theorem DV (w:World) (JF Bf:Nat) (e:TypeId) (h:JF<=dI):JF<=grownCap w JF Bf e/\grownCap w JF Bf e<=maxLen:=by
 unfold dI at h
 simp only[grownCap,Question.cut,maxLen]
 have:=Nat.mod_lt (w.tape w.drawn (.appendCap JF Bf e)) (show 0<2 ^ 63-JF by omega)
 omega
theorem il {x y:Operand} {t:TypeId} {u:Value} (ho:o.op=.call {callee:=.builtin .append,args:= #[x,y],argTypes:= #[t,t]}) (h:(Builtin.append_ #[t,t] o.type #[a.eval x,a.eval y]).run P w=.ok u w'):(execOp a.eval o).run P w=.ok (.value u) w':=by
 simp only[execOp,ho,resolve,Sem.run_bind,Sem.run_pure,Result.andThen_ok,invoke,builtin]
 simp only[List.map_toArray,List.map_cons,List.map_nil]
 rw[h];rfl
theorem E8 {T:TypeId} (S:iD P hs D ι g w) (cells:Array Value) (hn:ι id=none) (B:uS):Step hs D ι w D (lO ι id B) (w.drew.alloc (.cells cells T)):=
 Step.stay S (fun k hk=>by show(w.heap.push _)[k]? = _;rw[Array.getElem?_push,if_neg ae]) (by show _<=(w.heap.push _).size;simp) rfl rfl rfl (fun _ h=>h) (fun _ h=>.inl h) (gm hn)
theorem KZ {x y:Operand} {x' y':O} {t e:TypeId} {m:Nat} {z:List K} {i:TypeInfo} {ys:List (List AV)} {g':Rows} (S:iD P hs D ι g w) (E:di P w D ι env a) (hn:ι id=none) (ho:o.op=.call {callee:=.builtin .append,args:= #[x,y],argTypes:= #[t,t]})
  (ht:P.underlying t=some (.slice e)) (e9:eX P e=some (m+1)) (hz:kz P e=some z) (hi:P.info? e=some i) (hby:i.bytes<=32768) (hx:cO P x=some x') (hy:cO P y=some y') (HP:bD g (du env y')=some ys)
  (hv:aY g id (m+1) (du env x') ys=some (v,g')):Fy P hs a o w D ι id v g':=by
 have rx:=ek E hx
 have ry:=ek E hy
 obtain⟨it,zv,tA,yM,UG,hm,HQ⟩:=kT hz
 rw[hi]at tA;injection tA with tA;subst tA
 have ko:i.size=m+1:=by simpa[eX,hi]using e9
 have fits:∀n,n<=dI->n*i.bytes<=140737488355328:=fun n h=>by
  unfold dI at h
  have:=Nat.mul_le_mul h hby
  omega
 have e63:∀n,n<=dI->(n:Int)<=9223372036854775807:=fun n h=>by unfold dI at h;omega
 have same:∀(w1:World) (cells:Array Value),w1=w.drew.alloc (.cells cells e)->w1.heap=w.heap.push (.cells cells e (0,0)):=fun w1 cells h=>by subst h;rfl
 have UT:∀l:List (List AV),(l.all fun c=>c.length==m+1&&c.all AV.cell)=true->(∀c∈l,c.length=m+1)/\∀c∈l,∀b∈c,b.cell=true:=fun l h=>by
  rw[List.all_eq_true]at h
  refine⟨fun c hc=>?_,fun c hc b hb=>?_⟩
  ·have:=h c hc;simp at this;exact this.1
  ·have:=h c hc;simp at this;exact this.2 b hb
 unfold aY at hv
 split at hv
 ·rename_i hb
  rw[hb]at rx
  have ex:=lu rx
  split at hv
  ·simp at hv
   obtain⟨rfl,rfl⟩:=hv
   obtain⟨A,c,ey,_⟩:=uy (sz:=m+1) S ry HP (fun c h=>by cases h) (fun c h=>by cases h)
   refine⟨_,w,ι,.inl (il ho (by rw[ex,ey];exact qO ht hi none 0 0 (Nat.le_refl _) A c)),Step.refl _ _ _ _,S,.fy _ _ .ck,fun _ _=>rfl⟩
  ·rename_i y0 yr
   split at hv
   ·rename_i hc
    simp only[Option.some.injEq,Prod.mk.injEq]at hv
    obtain⟨rfl,rfl⟩:=hv
    obtain⟨hl,hf⟩:=UT _ hc.2
    obtain⟨A,c,ey,h2⟩:=uy (sz:=m+1) S ry HP hl hf
    rcases h2 with h2|⟨b,oo,news,rfl,q1,q2,q3,q4⟩
    ·cases h2
    have iw:=run_append_nil (P:=P) w t o.type e i zv ht hi yM ⟨b,oo,none⟩ (y0::yr).length c news (by rw[ko];exact q1) (fun j v hj=>by rw[lE];exact q2 j v hj) (by simp) (e63 _ hc.1) (by have:=fits _ hc.1;omega)
    obtain⟨g1,g2⟩:=DV w (y0::yr).length 0 e hc.1
    have eD:(news.toArray++Builtin.zeroCells zv.cells (grownCap w (y0::yr).length 0 e-(y0::yr).length)).size=grownCap w (y0::yr).length 0 e*(m+1):=by
     rw[Array.size_append,size_zeroCells,UG,ko]
     simp only[List.size_toArray,q1]
     rw[<-Nat.add_mul];congr 1;omega
    have S1:=S.alloc (w':=w.drew.alloc (.cells (news.toArray++Builtin.zeroCells zv.cells (grownCap w (y0::yr).length 0 e-(y0::yr).length)) e)) (r:=⟨true,m+1,y0::yr⟩) rfl hn rfl (by rw[eD];exact Nat.mul_le_mul_right _ g1) hl hf
     (fun k j cs b2 hk hj=>by
      obtain⟨u,hu,z7⟩:=q3.2 _ _ (flat_get hl hk hj)
      refine⟨u,?_,z7⟩
      have eM:=(Array.getElem?_eq_some_iff.1 hu).1
      dsimp only
      rw[Array.getElem?_append_left eM];exact hu)
    have ev:=E8 (T:=e) S (news.toArray++Builtin.zeroCells zv.cells (grownCap w (y0::yr).length 0 e-(y0::yr).length)) hn ⟨w.heap.size,m+1,(news.toArray++Builtin.zeroCells zv.cells (grownCap w (y0::yr).length 0 e-(y0::yr).length)).size,none⟩
    refine⟨_,_,_,.inl (il ho (by rw[ex,ey];exact iw)),ev,S1,?_,fun _ h=>iA h⟩
    refine .own _ _ _ _ _ _ (eV _ _ _) rfl g1 (.inr (by simp)) ?_ g2
    dsimp only;rw[eD];simp
   ·simp at hv
 ·rename_i i0 len hb
  rw[hb]at rx
  simp only[Option.bind_eq_some_iff]at hv
  obtain⟨r,hg,hv⟩:=hv
  split at hv
  ·rename_i hc
   obtain⟨c1,c2,c3,c4,c5⟩:=hc
   simp only[Option.some.injEq,Prod.mk.injEq]at hv
   obtain⟨rfl,rfl⟩:=hv
   obtain⟨hl,hf⟩:=UT _ c5
   obtain⟨A,c,ey,h2⟩:=uy (sz:=m+1) S ry HP hl hf
   obtain⟨oo,cap,B,ex,hB,h1,C5,h3,h4,hk⟩:=jO rx
   obtain⟨B',eG,R,kI,re⟩:=S.row _ _ hg
   rw[hB]at eG;injection eG with eG;subst eG
   replace R:=R.row hk
   have Le:B.sz=m+1:=R.sz.trans c2
   have Cn:∀cs∈r.rows++ys,cs.length=m+1:=fun cs eD=>by
    rcases List.mem_append.1 eD with h|h
    ·rw[<-c2];exact R.len cs h
    ·exact hl cs h
   have P6:∀cs∈r.rows++ys,∀b∈cs,b.cell=true:=fun cs eD=>by
    rcases List.mem_append.1 eD with h|h
    ·exact R.flat cs h
    ·exact hf cs h
   rcases h2 with rfl|⟨yb,yo,news,rfl,q1,q2,q3,q4⟩
   ·have Jd:=S.rename hg c1 hB hn
    refine⟨_,w,lO ι id B,.inl (il ho (by rw[ex,ey];exact qO ht hi _ _ _ h1 A c)),⟨Below.refl _ _,fun _ _=>rfl,fun _ h=>h,gm hn,fun _ h=>.inl h⟩,?_,?_,fun _ h=>iA h⟩
    ·have:(⟨true,m+1,r.rows++[]⟩:Row)=r:=by cases r;simp_all
     rw[this];exact Jd
    ·simp only[List.length_nil,Nat.add_zero]
     exact .own _ _ _ _ _ B (eV _ _ _) hk h1 C5 h3 h4
   ·obtain⟨cur,T,hblk,hC,yF⟩:=R.cur
    by_cases ik:len+ys.length<=cap
    ·have VR:ys≠[]->oo=0:=fun h=>by
      rcases C5 with C5|C5
      ·have:=List.length_pos_iff.2 h;omega
      ·simpa using C5
     by_cases hy0:ys=[]
     ·subst hy0
      have Jd:=S.rename hg c1 hB hn
      refine⟨_,w,lO ι id B,.inl (il ho (by rw[ex,ey];exact qO ht hi _ _ _ h1 _ c)),⟨Below.refl _ _,fun _ _=>rfl,fun _ h=>h,gm hn,fun _ h=>.inl h⟩,?_,?_,fun _ h=>iA h⟩
      ·have:(⟨true,m+1,r.rows++[]⟩:Row)=r:=by cases r;simp_all
       rw[this];exact Jd
      ·simp only[List.length_nil,Nat.add_zero]
       exact .own _ _ _ _ _ B (eV _ _ _) hk h1 C5 h3 h4
     have ho0:=VR hy0
     subst ho0
     have zX:len*i.size+news.length<=cur.size:=by
      rw[ko,q1,hC,<-Nat.add_mul]
      refine Nat.le_trans ?_ h3
      rw[Le,Nat.zero_add]
      exact Nat.mul_le_mul_right _ ik
     have iw:=Ah (ty:=o.type) ht hi B.b len cap cur hblk ⟨yb,yo,none⟩ ys.length c news (by rw[ko];exact q1) (fun j v hj=>by rw[lE];exact q2 j v hj) q4 ik zX
     have pJ:cur.toList.length=cur.size:=Array.length_toList
     simp only[ko]at iw zX
     obtain⟨P1,P2⟩:=S.put (r':=⟨true,m+1,r.rows++ys⟩) hg c1 hB hblk (cur':=(cur.toList.take (len*(m+1))++news++cur.toList.drop (len*(m+1)+news.length)).toArray) (by simp only[List.size_toArray,List.length_append,List.length_take,List.length_drop,pJ];omega) rfl c2.symm
      (by dsimp only;rw[List.length_append,<-c3,<-Le];refine Nat.le_trans (Nat.mul_le_mul_right _ ik) (Nat.le_trans (by simp) h3)) Cn P6 (fun k j cs b2 hk hj=>by
       simp only[List.getElem?_toArray]
       have iv:j<m+1:=by rw[<-Cn cs (List.mem_of_getElem? hk)];exact(List.getElem?_eq_some_iff.1 hj).1
       rw[c2]
       by_cases mU:k<r.rows.length
       ·rw[List.getElem?_append_left mU]at hk
        have h2:k*(m+1)+j<len*(m+1):=kN ae iv
        rw[List.append_assoc,List.getElem?_append_left (by simp only[List.length_take,pJ];omega),List.getElem?_take,if_pos h2]
        have:=yF k j cs b2 hk hj
        rw[c2]at this;simpa using this
       ·rw[List.getElem?_append_right ae]at hk
        have ue:=(List.getElem?_eq_some_iff.1 hk).1
        have kC:len*(m+1)<=k*(m+1):=Nat.mul_le_mul_right _ ae
        have oJ:k*(m+1)+j-len*(m+1)=(k-r.rows.length)*(m+1)+j:=by
         rw[<-c3,Nat.sub_mul];omega
        obtain⟨u,hu,z7⟩:=q3.2 _ _ (flat_get hl hk hj)
        refine⟨u,?_,z7⟩
        have HM:news[(k-r.rows.length)*(m+1)+j]? =some u:=by simpa using hu
        have eM:=(List.getElem?_eq_some_iff.1 HM).1
        rw[List.append_assoc,List.getElem?_append_right (by simp only[List.length_take,pJ];omega),List.getElem?_append_left (by simp only[List.length_take,pJ];omega)]
        rw[<-HM]
        congr 1
        simp only[List.length_take,pJ]
        omega)
     have fj:bK (cq (bK g i0 ⟨true,m+1,r.rows++ys⟩) i0) id ⟨true,m+1,r.rows++ys⟩=bK (cq g i0) id ⟨true,m+1,r.rows++ys⟩:=by
      funext q;simp only[bK,cq]
      by_cases h:q=id<;>by_cases h':q=i0<;>simp[h,h']
     have Jd:=P1.rename (i:=i0) (id:=id) (r:=⟨true,m+1,r.rows++ys⟩) (by simp[bK]) rfl hB hn
     rw[fj]at Jd
     refine⟨_,_,_,.inl (il ho (by rw[ex,ey];exact iw)),P2.trans ⟨Below.refl _ _,fun _ _=>rfl,fun _ h=>h,gm hn,fun _ h=>.inl h⟩,Jd,?_,fun _ h=>iA h⟩
     exact .own _ _ _ _ _ B (eV _ _ _) hk ik (.inr (by simp)) h3 h4
    ·
     have holds:∃xq:List Value,xq.length=len*(m+1)/\(∀j v,xq[j]? =some v->w.cell? ⟨B.b,oo+j,none⟩=some v)/\gy P w D ι r.rows.flatten xq.toArray:=by
      obtain⟨A2,c2',e2,h2⟩:=uy (sz:=m+1) (u:=.slice (some ⟨B.b,oo,none⟩) len cap) S (.own i0 0 len oo cap B hB hk h1 C5 h3 h4) (ys:=r.rows) (by simp[bD,hg,c3]) (fun cs h=>by rw[<-c2];exact R.len cs h) R.flat
      rcases h2 with h2|⟨b2,o2,xq,rfl,p1,p2,p3,_⟩
      ·refine⟨[],by simp[c3,h2],fun j v h=>by simp at h,by rw[h2];exact⟨rfl,fun j a h=>by simp at h⟩⟩
      ·injection e2 with e2 _ _
       injection e2 with e2
       injection e2 with e21 e22 _
       subst e21;subst e22
       exact⟨xq,by rw[p1,c3],p2,p3⟩
     obtain⟨xq,p1,p2,p3⟩:=holds
     have iw:=run_append_grow (P:=P) w t o.type e i zv ht hi yM ⟨B.b,oo,none⟩ len cap xq (by rw[ko];exact p1) (fun j v hj=>by rw[lE];exact p2 j v hj) ⟨yb,yo,none⟩ ys.length c news (by rw[ko];exact q1) (fun j v hj=>by rw[lE];exact q2 j v hj) ae (e63 _ c4) (growslice_fits ae (fits _ c4))
     obtain⟨g1,g2⟩:=DV w (len+ys.length) cap e c4
     have eD:(xq.toArray++news.toArray++Builtin.zeroCells zv.cells (grownCap w (len+ys.length) cap e-(len+ys.length))).size=grownCap w (len+ys.length) cap e*(m+1):=by
      rw[Array.size_append,Array.size_append,size_zeroCells,UG,ko]
      simp only[List.size_toArray,q1,p1]
      rw[<-Nat.add_mul,<-Nat.add_mul];congr 1;omega
     have S1:=(S.kill i0).alloc (id:=id) (w':=w.drew.alloc (.cells (xq.toArray++news.toArray++Builtin.zeroCells zv.cells (grownCap w (len+ys.length) cap e-(len+ys.length))) e)) (r:=⟨true,m+1,r.rows++ys⟩) rfl hn rfl (by dsimp only;rw[eD,List.length_append,<-c3];exact Nat.mul_le_mul_right _ g1) Cn P6
      (fun k j cs b2 hk hj=>by
       have Lo:=flat_get Cn hk hj
       rw[List.flatten_append]at Lo
       have OE:xq.length=r.rows.flatten.length:=by have:=p3.1;simpa using this
       dsimp only
       by_cases eM:k*(m+1)+j<r.rows.flatten.length
       ·rw[List.getElem?_append_left eM]at Lo
        obtain⟨u,hu,z7⟩:=p3.2 _ _ Lo
        refine⟨u,?_,z7⟩
        rw[Array.getElem?_append_left (by simp;omega),Array.getElem?_append_left (by simp;omega)];exact hu
       ·rw[List.getElem?_append_right ae]at Lo
        obtain⟨u,hu,z7⟩:=q3.2 _ _ Lo
        refine⟨u,?_,z7⟩
        have Ea:=(Array.getElem?_eq_some_iff.1 hu).1
        simp only[List.size_toArray]at Ea
        rw[Array.getElem?_append_left (by simp;omega),Array.getElem?_append_right (by simp;omega)]
        simp only[List.size_toArray,OE];exact hu)
     have ev:=E8 (T:=e) S (xq.toArray++news.toArray++Builtin.zeroCells zv.cells (grownCap w (len+ys.length) cap e-(len+ys.length))) hn ⟨w.heap.size,m+1,(xq.toArray++news.toArray++Builtin.zeroCells zv.cells (grownCap w (len+ys.length) cap e-(len+ys.length))).size,none⟩
     refine⟨_,_,_,.inl (il ho (by rw[ex,ey];exact iw)),ev,S1,?_,fun _ h=>iA h⟩
     refine .own _ _ _ _ _ _ (eV _ _ _) rfl g1 (.inr (by simp)) ?_ g2
     dsimp only;rw[eD];simp
  ·simp at hv
 ·simp at hv
theorem mj {x:Operand} {t:TypeId} {u:Value} (ho:o.op=.call {callee:=.builtin .clear,args:= #[x],argTypes:= #[t]}) (h:(Builtin.clear_ #[t] o.type #[a.eval x]).run P w=.ok u w'):(execOp a.eval o).run P w=.ok (.value u) w':=by
 simp only[execOp,ho,resolve,Sem.run_bind,Sem.run_pure,Result.andThen_ok,invoke,builtin]
 simp only[List.map_toArray,List.map_cons,List.map_nil]
 rw[h];rfl
theorem Ob {x:Operand} {x':O} {t e:TypeId} {m:Nat} {z:List K} {g':Rows} (S:iD P hs D ι g w) (E:di P w D ι env a) (ho:o.op=.call {callee:=.builtin .clear,args:= #[x],argTypes:= #[t]})
  (ht:P.underlying t=some (.slice e)) (e9:eX P e=some (m+1)) (hz:kz P e=some z) (hx:cO P x=some x') (hv:bP g z (du env x')=some g'):Fy P hs a o w D ι id .undef g':=by
 have rx:=ek E hx
 obtain⟨it,zv,hi,yM,UG,hm,HQ⟩:=kT hz
 have ko:it.size=m+1:=by simpa[eX,hi]using e9
 unfold bP at hv
 split at hv
 ·rename_i hb
  rw[hb]at rx
  simp at hv;subst hv
  refine⟨undef,w,ι,.inl (mj ho (by rw[lu rx];simp only[Builtin.clear_,Sem.run_bind];simp[run_underlying ht,undef])),Step.refl _ _ _ _,S,dy.undef,fun _ _=>rfl⟩
 ·rename_i i off len hb
  rw[hb]at rx
  simp only[Option.bind_eq_some_iff]at hv
  obtain⟨r,hg,hv⟩:=hv
  split at hv
  ·rename_i hc
   obtain⟨c1,c2,c3⟩:=hc
   simp only[Option.some.injEq]at hv;subst hv
   obtain⟨oo,cap,B,ex,hB,h1,h2,h3,h4,hk⟩:=jO rx
   obtain⟨B',eG,R,kI,re⟩:=S.row _ _ hg
   rw[hB]at eG;injection eG with eG;subst eG
   replace R:=R.row hk
   obtain⟨cur,T,hblk,hC,yF⟩:=R.cur
   by_cases h0:len=0
   ·subst h0
    have e1:({r with rows:=r.rows.take off++List.replicate 0 (z.map K.av)++r.rows.drop (off+0)}:Row)=r:=by cases r;simp
    rw[e1]
    have e2:bK g i r=g:=by
     funext q;unfold bK;split
     ·rename_i h;rw[h,hg]
     ·rfl
    rw[e2]
    refine⟨undef,w,ι,.inl (mj ho (by rw[ex];simp only[Builtin.clear_,Sem.run_bind];simp[run_underlying ht,undef])),Step.refl _ _ _ _,S,dy.undef,fun _ _=>rfl⟩
   ·have Fu:oo=off*B.sz:=by rcases h2 with h2|h2<;>omega
    have Le:B.sz=m+1:=by rw[R.sz,c2,HQ,ko]
    have AP:r.sz=m+1:=by rw[<-R.sz,Le]
    have Wa:zv.cells.size=m+1:=by rw[UG,ko]
    have AS:(Builtin.zeroCells zv.cells len).toList.length=len*(m+1):=by rw[Array.length_toList,size_zeroCells,Wa]
    have V9:∀k,k<len*(m+1)->∃c,z[k % z.length]? =some c/\(Builtin.zeroCells zv.cells len).toList[k]? =some c.val:=fun k hk=>by
     obtain⟨c,sr,I4⟩:=qV (n:=len*zv.cells.size) hm (by rw[HQ,ko];omega) k (by rw[Wa];exact hk)
     exact⟨c,sr,by rw[Array.getElem?_toList];exact I4⟩
    have hbound:(off+len)*(m+1)<=r.rows.length*(m+1):=Nat.mul_le_mul_right _ c3
    have D6:=R.fits
    rw[AP]at D6
    have Y1:(off+len)*(m+1)=off*(m+1)+len*(m+1):=Nat.add_mul _ _ _
    have ev:=run_storeCells_at P B.b oo T (Builtin.zeroCells zv.cells len).toList 0 cur w hblk (by rw[AS,hC,Fu,Le];omega) (by
     intro v hv
     obtain⟨k,hk,rfl⟩:=List.getElem_of_mem hv
     obtain⟨c,_,I4⟩:=V9 k (by rw[<-AS];exact hk)
     rw[List.getElem?_eq_getElem hk]at I4
     injection I4 with I4
     rw[I4];cases c<;>rfl)
    simp only[Nat.add_zero]at ev
    have pJ:cur.toList.length=cur.size:=Array.length_toList
    obtain⟨P1,P2⟩:=S.put (r':={r with rows:=r.rows.take off++List.replicate len (z.map K.av)++r.rows.drop (off+len)}) hg c1 hB hblk (cur':=(cur.toList.take oo++(Builtin.zeroCells zv.cells len).toList++cur.toList.drop (oo+(Builtin.zeroCells zv.cells len).toList.length)).toArray)
     (by simp only[List.size_toArray,List.length_append,List.length_take,List.length_drop,pJ,AS];rw[Fu,Le];omega) c1 rfl (by
      have:(r.rows.take off++List.replicate len (z.map K.av)++r.rows.drop (off+len)).length=r.rows.length:=by simp;omega
      dsimp only;rw[this];exact R.fits) (fun cs eD=>by
      rcases List.mem_append.1 eD with h|h
      ·rcases List.mem_append.1 h with h|h
       ·exact R.len cs (List.mem_of_mem_take h)
       ·rw[List.eq_of_mem_replicate h];simp[c2]
      ·exact R.len cs (List.mem_of_mem_drop h)) (fun cs eD b hb=>by
      rcases List.mem_append.1 eD with h|h
      ·rcases List.mem_append.1 h with h|h
       ·exact R.flat cs (List.mem_of_mem_take h) b hb
       ·rw[List.eq_of_mem_replicate h]at hb
        obtain⟨c,_,rfl⟩:=List.mem_map.1 hb;exact c.oz
      ·exact R.flat cs (List.mem_of_mem_drop h) b hb) (fun k j cs b hk hj=>by
      simp only[List.getElem?_toArray]
      rw[AP]
      rw[Fu,Le,AS]
      by_cases tC:k<off
      ·rw[List.append_assoc,List.getElem?_append_left (by simp;omega),List.getElem?_take,if_pos tC]at hk
       have iv:j<m+1:=by rw[<-AP,<-R.len cs (List.mem_of_getElem? hk)];exact(List.getElem?_eq_some_iff.1 hj).1
       have h2:=kN tC iv
       rw[List.append_assoc,List.getElem?_append_left (by simp only[List.length_take,pJ];omega),List.getElem?_take,if_pos h2]
       have:=yF k j cs b hk hj
       rw[AP]at this;simpa using this
      ·by_cases ue:k<off+len
       ·rw[List.append_assoc,List.getElem?_append_right (by simp;omega),List.getElem?_append_left (by simp;omega)]at hk
        have iP:=List.eq_of_mem_replicate (List.mem_of_getElem? hk)
        subst iP
        simp only[List.getElem?_map,Option.map_eq_some_iff]at hj
        obtain⟨q,hq,rfl⟩:=hj
        have iv:=(List.getElem?_eq_some_iff.1 hq).1
        rw[HQ,ko]at iv
        have kC:off*(m+1)<=k*(m+1):=Nat.mul_le_mul_right _ ae
        have oJ:k*(m+1)+j-off*(m+1)=(k-off)*(m+1)+j:=by rw[Nat.sub_mul];omega
        have Ea:(k-off)*(m+1)+j<len*(m+1):=kN ae iv
        rw[List.append_assoc,List.getElem?_append_right (by simp only[List.length_take,pJ];omega),List.getElem?_append_left (by simp only[List.length_take,pJ,AS];omega)]
        obtain⟨c,sr,I4⟩:=V9 _ Ea
        rw[HQ,ko,Nat.mul_comm (k-off),Nat.mul_add_mod,Nat.mod_eq_of_lt iv,hq]at sr
        injection sr with sr;subst sr
        refine⟨q.val,?_,zl q⟩
        rw[<-I4]
        congr 1
        simp only[List.length_take,pJ];omega
       ·rw[List.getElem?_append_right (by simp;omega)]at hk
        simp only[List.length_append,List.length_take,List.length_replicate,List.getElem?_drop]at hk
        rw[show off+len+(k-(min off r.rows.length+len))=k by omega]at hk
        have mU:=(List.getElem?_eq_some_iff.1 hk).1
        have kC:(off+len)*(m+1)<=k*(m+1):=Nat.mul_le_mul_right _ ae
        rw[List.getElem?_append_right (by simp only[List.length_append,List.length_take,pJ,AS];omega)]
        simp only[List.length_append,List.length_take,pJ,AS,List.getElem?_drop]
        rw[show off*(m+1)+len*(m+1)+(k*(m+1)+j-(min (off*(m+1)) cur.size+len*(m+1)))=k*(m+1)+j by omega]
        have:=yF k j cs b hk hj
        rw[AP]at this;simpa using this)
    refine⟨undef,_,ι,.inl (mj ho ?_),P2,P1,dy.undef,fun _ _=>rfl⟩
    rw[ex]
    cases len with
    |zero=>exact(h0 rfl).elim
    |succ len=>
     simp only[Builtin.clear_,Sem.run_bind]
     simp[run_underlying ht,zeroValue,typeInfo,hi,yM,ev,undef]
  ·simp at hv
 ·simp at hv
theorem JV {dT sT ty e:TypeId} {it:TypeInfo} (hu:P.underlying dT=some (.slice e)) (hi:P.info? e=some it) (A B:Option Addr) (uB GQ IK Q8:Nat) (h0:Nat.min uB IK=0):
  (Builtin.copy_ #[dT,sT] ty #[.slice A IK Q8,.slice B uB GQ]).run P w=.ok (goInt 0) w:=by
 cases A<;>cases B<;>simp[Builtin.copy_,run_underlying hu,Builtin.lenOf,Builtin.firstCells,sizeOf,typeInfo,hi,h0,storeCells,loadCells,loadCellsFrom]
theorem JW {dT sT ty e:TypeId} {it:TypeInfo} (hu:P.underlying dT=some (.slice e)) (hi:P.info? e=some it) (A B:Addr) (uB GQ IK Q8:Nat) (cs:List Value) (hn:cs.length=Nat.min uB IK*it.size) (hl:(loadCells B cs.length).run P w=.ok cs.toArray w) (hs:(storeCells A cs).run P w=.ok () w'):
  (Builtin.copy_ #[dT,sT] ty #[.slice (some A) IK Q8,.slice (some B) uB GQ]).run P w=.ok (goInt (Nat.min uB IK)) w':=by
 simp[Builtin.copy_,run_underlying hu,Builtin.lenOf,Builtin.firstCells,sizeOf,typeInfo,hi,<-hn,hl,hs]
theorem sG {x y:Operand} {t t2:TypeId} {u:Value} (ho:o.op=.call {callee:=.builtin .copy,args:= #[x,y],argTypes:= #[t,t2]}) (h:(Builtin.copy_ #[t,t2] o.type #[a.eval x,a.eval y]).run P w=.ok u w'):(execOp a.eval o).run P w=.ok (.value u) w':=by
 simp only[execOp,ho,resolve,Sem.run_bind,Sem.run_pure,Result.andThen_ok,invoke,builtin]
 simp only[List.map_toArray,List.map_cons,List.map_nil]
 rw[h];rfl
theorem Q9 {x y:Operand} {x' y':O} {t t2 e:TypeId} {m:Nat} {ys:List (List AV)} {v:AV} {g':Rows} (S:iD P hs D ι g w) (E:di P w D ι env a) (ho:o.op=.call {callee:=.builtin .copy,args:= #[x,y],argTypes:= #[t,t2]})
  (ht:P.underlying t=some (.slice e)) (e9:eX P e=some (m+1)) (hx:cO P x=some x') (hy:cO P y=some y') (HP:bD g (du env y')=some ys) (hv:Ij g (m+1) (du env x') ys=some (v,g')):Fy P hs a o w D ι id v g':=by
 have rx:=ek E hx
 have ry:=ek E hy
 obtain⟨it,hi,ko⟩:∃it,P.info? e=some it/\it.size=m+1:=by
  cases hq:P.info? e with
  |none=>simp[eX,hq]at e9
  |some it=>exact⟨it,rfl,by simpa[eX,hq]using e9⟩
 unfold Ij at hv
 split at hv
 ·rename_i i off len hb
  rw[hb]at rx
  simp only[Option.bind_eq_some_iff]at hv
  obtain⟨r,hg,hv⟩:=hv
  split at hv
  ·rename_i hc
   obtain⟨c1,c2,c3,c4⟩:=hc
   simp only[Option.some.injEq,Prod.mk.injEq]at hv
   obtain⟨rfl,rfl⟩:=hv
   rw[List.all_eq_true]at c4
   have hl:∀c∈ys,c.length=m+1:=fun c hc=>by have:=c4 c hc;simp at this;exact this.1
   have hf:∀c∈ys,∀b∈c,b.cell=true:=fun c hc b hb=>by have:=c4 c hc;simp at this;exact this.2 b hb
   obtain⟨oo,cap,B,ex,hB,h1,h2,h3,h4,hk⟩:=jO rx
   obtain⟨B',eG,R,kI,re⟩:=S.row _ _ hg
   rw[hB]at eG;injection eG with eG;subst eG
   replace R:=R.row hk
   obtain⟨cur,T,hblk,hC,yF⟩:=R.cur
   obtain⟨A,sc,hu,hA⟩:=uy S ry HP hl hf
   by_cases h0:min ys.length len=0
   ·rw[h0]
    have e1:({r with rows:=r.rows.take off++ys.take 0++r.rows.drop (off+0)}:Row)=r:=by cases r;simp
    rw[e1]
    have e2:bK g i r=g:=by
     funext q;unfold bK;split
     ·rename_i h;rw[h,hg]
     ·rfl
    rw[e2]
    refine⟨goInt 0,w,ι,.inl (sG ho (by rw[ex,hu];exact JV ht hi _ _ _ _ _ _ h0)),Step.refl _ _ _ _,S,.fy _ _ (.int _ _),fun _ _=>rfl⟩
   ·rcases hA with rfl|⟨b,o2,news,rfl,wJ,hsrc,hR,h1c⟩
    ·simp at h0
    have VN:Nat.min ys.length len=min ys.length len:=rfl
    have hky:min ys.length len<=ys.length:=Nat.min_le_left _ _
    have mU:min ys.length len<=len:=Nat.min_le_right _ _
    generalize OB:min ys.length len=kk at *
    have hlen0:len≠0:=ae
    have Fu:oo=off*B.sz:=by rcases h2 with h2|h2<;>omega
    have Le:B.sz=m+1:=by rw[R.sz,c2]
    have AP:r.sz=m+1:=c2
    have hkm:kk*(m+1)<=ys.length*(m+1):=Nat.mul_le_mul_right _ hky
    have AS:(news.take (kk*(m+1))).length=kk*(m+1):=by rw[List.length_take,wJ];omega
    have hbound:(off+kk)*(m+1)<=r.rows.length*(m+1):=Nat.mul_le_mul_right _ ae
    have D6:=R.fits
    rw[AP]at D6
    have Y1:(off+kk)*(m+1)=off*(m+1)+kk*(m+1):=Nat.add_mul _ _ _
    have ev:=run_storeCells_at P B.b oo T (news.take (kk*(m+1))) 0 cur w hblk (by rw[AS,hC,Fu,Le];omega) (fun v hv=>h1c v (List.mem_of_mem_take hv))
    have Xu:=run_loadCells_list (P:=P) w ⟨b,o2,none⟩ (news.take (kk*(m+1))) (fun j v hj=>by
     rw[List.getElem?_take]at hj
     split at hj
     ·have:=hsrc j v hj
      cases j with
      |zero=>simpa[Addr.add]using this
      |succ j=>simpa[Addr.add]using this
     ·cases hj)
    simp only[Nat.add_zero]at ev
    have pJ:cur.toList.length=cur.size:=Array.length_toList
    have NK:(ys.take kk).length=kk:=by rw[List.length_take];omega
    obtain⟨P1,P2⟩:=S.put (r':={r with rows:=r.rows.take off++ys.take kk++r.rows.drop (off+kk)}) hg c1 hB hblk (cur':=(cur.toList.take oo++news.take (kk*(m+1))++cur.toList.drop (oo+(news.take (kk*(m+1))).length)).toArray)
     (by simp only[List.size_toArray,List.length_append,List.length_drop,pJ,AS];rw[List.length_take,pJ,Fu,Le];omega) c1 rfl (by
      have:(r.rows.take off++ys.take kk++r.rows.drop (off+kk)).length=r.rows.length:=by simp;omega
      dsimp only;rw[this];exact R.fits) (fun cs eD=>by
      rcases List.mem_append.1 eD with h|h
      ·rcases List.mem_append.1 h with h|h
       ·exact R.len cs (List.mem_of_mem_take h)
       ·rw[hl cs (List.mem_of_mem_take h)];exact c2.symm
      ·exact R.len cs (List.mem_of_mem_drop h)) (fun cs eD b hb=>by
      rcases List.mem_append.1 eD with h|h
      ·rcases List.mem_append.1 h with h|h
       ·exact R.flat cs (List.mem_of_mem_take h) b hb
       ·exact hf cs (List.mem_of_mem_take h) b hb
      ·exact R.flat cs (List.mem_of_mem_drop h) b hb) (fun k j cs b hk hj=>by
      simp only[List.getElem?_toArray]
      rw[AP]
      rw[Fu,Le,AS]
      by_cases tC:k<off
      ·rw[List.append_assoc,List.getElem?_append_left (by simp;omega),List.getElem?_take,if_pos tC]at hk
       have iv:j<m+1:=by rw[<-AP,<-R.len cs (List.mem_of_getElem? hk)];exact(List.getElem?_eq_some_iff.1 hj).1
       have h2:=kN tC iv
       rw[List.append_assoc,List.getElem?_append_left (by simp only[List.length_take,pJ];omega),List.getElem?_take,if_pos h2]
       have:=yF k j cs b hk hj
       rw[AP]at this;simpa using this
      ·by_cases ue:k<off+kk
       ·rw[List.append_assoc,List.getElem?_append_right (by simp;omega),List.getElem?_append_left (by simp;omega)]at hk
        simp only[List.length_take]at hk
        rw[show k-min off r.rows.length=k-off by omega,List.getElem?_take,if_pos ae]at hk
        have iv:j<m+1:=by rw[<-hl cs (List.mem_of_getElem? hk)];exact(List.getElem?_eq_some_iff.1 hj).1
        have kC:off*(m+1)<=k*(m+1):=Nat.mul_le_mul_right _ ae
        have oJ:k*(m+1)+j-off*(m+1)=(k-off)*(m+1)+j:=by rw[Nat.sub_mul];omega
        have Ea:(k-off)*(m+1)+j<kk*(m+1):=kN ae iv
        rw[List.append_assoc,List.getElem?_append_right (by simp only[List.length_take,pJ];omega),List.getElem?_append_left (by rw[AS];simp only[List.length_take,pJ];omega)]
        obtain⟨u,V2,hu2⟩:=hR.2 ((k-off)*(m+1)+j) b (flat_get hl hk hj)
        refine⟨u,?_,hu2⟩
        rw[List.getElem?_take]
        simp only[List.length_take,pJ]
        rw[show k*(m+1)+j-min (off*(m+1)) cur.size=(k-off)*(m+1)+j by omega,if_pos Ea]
        simpa using V2
       ·rw[List.getElem?_append_right (by simp;omega)]at hk
        simp only[List.length_append,List.length_take,List.getElem?_drop]at hk
        rw[show off+kk+(k-(min off r.rows.length+min kk ys.length))=k by omega]at hk
        have mU:=(List.getElem?_eq_some_iff.1 hk).1
        have kC:(off+kk)*(m+1)<=k*(m+1):=Nat.mul_le_mul_right _ ae
        rw[List.getElem?_append_right (by rw[List.length_append,AS];simp only[List.length_take,pJ];omega)]
        rw[List.getElem?_drop,List.length_append,AS]
        simp only[List.length_take,pJ]
        rw[show off*(m+1)+kk*(m+1)+(k*(m+1)+j-(min (off*(m+1)) cur.size+kk*(m+1)))=k*(m+1)+j by omega]
        have:=yF k j cs b hk hj
        rw[AP]at this;simpa using this)
    refine⟨goInt kk,_,ι,.inl (sG ho ?_),P2,P1,.fy _ _ (.int _ _),fun _ _=>rfl⟩
    rw[ex,hu]
    have:=JW (w:=w) (sT:=t2) (ty:=o.type) ht hi ⟨B.b,oo,none⟩ ⟨b,o2,none⟩ ys.length sc len cap _ (by rw[AS,VN,ko]) Xu ev
    rw[VN]at this
    exact this
  ·simp at hv
 ·simp at hv
end
end Go.Proofs.YtiabgllilcfheaaGreat.V

namespace Go.Proofs.YtiabgllilcfheaaGreat.V
open Go.RowKit
variable {P:Program} {w w':World} {D D' D2:Nat->Prop} {ι ι' ι2:Names}
section
variable {g:Rows} {hs:Nat}
theorem iJ:∀{n:Nat} {l r:List AV},eC g n l=some r->r.length=l.length/\∀(j:Nat) (b:AV),r[j]? =some b->∃a,l[j]? =some a/\fz g n a=some b
 |n,[],r,h=>by
  rw[eC]at h;simp at h;subst h;simp
 |n,a::l,r,h=>by
  rw[eC]at h
  split at h
  ·rename_i b hb
   simp only[Option.map_eq_some_iff]at h
   obtain⟨r',hr,rfl⟩:=h
   obtain⟨h1,h2⟩:=iJ hr
   refine⟨by simp[h1],fun j c hj=>?_⟩
   cases j with
   |zero=>simp at hj;subst hj;exact⟨a,rfl,hb⟩
   |succ j=>simp at hj ⊢;exact h2 j c hj
  ·simp at h
theorem yD:∀{n:Nat} {l r:List (List AV)},eZ g n l=some r->r.length=l.length/\∀(j:Nat) (b:List AV),r[j]? =some b->∃a,l[j]? =some a/\eC g n a=some b
 |n,[],r,h=>by
  rw[eZ]at h;simp at h;subst h;simp
 |n,a::l,r,h=>by
  rw[eZ]at h
  split at h
  ·rename_i b hb
   simp only[Option.map_eq_some_iff]at h
   obtain⟨r',hr,rfl⟩:=h
   obtain⟨h1,h2⟩:=yD hr
   refine⟨by simp[h1],fun j c hj=>?_⟩
   cases j with
   |zero=>simp at hj;subst hj;exact⟨a,rfl,hb⟩
   |succ j=>simp at hj ⊢;exact h2 j c hj
  ·simp at h
theorem tY (hD:∀b,D b->D2 b) (zQ:∀id row,g id=some row->row.w=true->∃B,ι id=some B/\jk P w D ι B row/\D2 B.b):∀(n:Nat) (a:AV) (u:Value) (r:AV),dy P w D ι a u->fz g n a=some r->dy P w D2 ι2 r u/\(a.cell=true->ly P w D2 r u/\r.cell=true):=by
 intro n
 induction n with
 |zero=>intro a u r _ h;rw[fz]at h;simp at h
 |succ n ih=>
  intro a u r hr h
  have both:∀{r:AV},ly P w D2 r u->r.cell=true->dy P w D2 ι2 r u/\(a.cell=true->ly P w D2 r u/\r.cell=true):=fun h1 h2=>⟨.fy _ _ h1,fun _=>⟨h1,h2⟩⟩
  cases a with
  |map id m=>rw[fz]at h;cases h
  |tQ id=>rw[fz]at h;cases h
  |own id off len=>
   rw[fz]at h
   split at h
   ·rename_i row hg
    split at h
    ·rename_i hw
     split at h
     ·rename_i hle
      simp only[Option.map_eq_some_iff]at h
      obtain⟨rows,qC,rfl⟩:=h
      obtain⟨B,hB,R,Rr⟩:=zQ id row hg hw
      obtain⟨o,cap,B',rfl,eG,h1,h2,h3,h4,hk⟩:=jO hr
      rw[hB]at eG;injection eG with eG;subst eG
      replace R:=R.row hk
      obtain⟨l1,l2⟩:=yD qC
      have hlen:rows.length=len:=by rw[l1];simp;omega
      by_cases h0:rows=[]
      ·subst h0
       simp at hlen;subst hlen
       exact both (.Db _ _ h4) rfl
      ·have hlp:0<len:=by rw[<-hlen];exact List.length_pos_iff.2 h0
       have ho:o=off*B.sz:=by rcases h2 with h2|h2<;>omega
       have src:∀i cs,rows[i]? =some cs->∃c0,row.rows[off+i]? =some c0/\eC g n c0=some cs:=fun i cs hi=>by
        obtain⟨c0,kB,hf⟩:=l2 i cs hi
        rw[List.getElem?_take]at kB
        split at kB
        ·rw[List.getElem?_drop]at kB;exact⟨c0,kB,hf⟩
        ·simp at kB
       have cell:∀i j,i<len->j<row.sz->∃c0 a0 v,row.rows[off+i]? =some c0/\c0[j]? =some a0/\w.cell? ⟨B.b,o+(i*row.sz+j),none⟩=some v/\dy P w D ι a0 v:=fun i j hi hj=>by
        have tA:off+i<row.rows.length:=ae
        have e1:=List.getElem?_eq_getElem tA
        have NC:j<row.rows[off+i].length:=by rw[R.len _ (List.getElem_mem tA)];exact hj
        obtain⟨v,hv,mV⟩:=R.at_ _ _ _ _ e1 (List.getElem?_eq_getElem NC)
        refine⟨_,_,v,e1,List.getElem?_eq_getElem NC,?_,mV⟩
        rw[ho,R.sz,<-hv]
        congr 2
        rw[Nat.add_mul];omega
       refine both (.sl rows B.b o len cap row.sz (fun i j=>(w.cell? ⟨B.b,o+(i*row.sz+j),none⟩).getD undef) hlen h1 h4 Rr (fun cs eD=>?_) (fun cs eD b hb=>?_) (fun i j hi hj=>?_) (fun i j cs b hi hj=>?_)) rfl
       ·obtain⟨i,hi,rfl⟩:=List.getElem_of_mem eD
        obtain⟨c0,kB,hf⟩:=src i _ (List.getElem?_eq_getElem hi)
        rw[(iJ hf).1];exact R.len c0 (List.mem_of_getElem? kB)
       ·obtain⟨i,hi,rfl⟩:=List.getElem_of_mem eD
        obtain⟨c0,kB,hf⟩:=src i _ (List.getElem?_eq_getElem hi)
        obtain⟨j,hj,rfl⟩:=List.getElem_of_mem hb
        obtain⟨a0,mz,I7⟩:=(iJ hf).2 j _ (List.getElem?_eq_getElem hj)
        obtain⟨v,_,mV⟩:=R.at_ _ _ _ _ kB mz
        exact((ih _ _ _ mV I7).2 (R.flat c0 (List.mem_of_getElem? kB) a0 (List.mem_of_getElem? mz))).2
       ·obtain⟨c0,a0,v,_,_,hv,_⟩:=cell i j hi hj
        simp only[hv,Option.getD_some]
       ·obtain⟨c0,kB,hf⟩:=src i cs hi
        obtain⟨a0,mz,I7⟩:=(iJ hf).2 j b hj
        have l5:i<len:=by rw[<-hlen];exact(List.getElem?_eq_some_iff.1 hi).1
        have iv:j<row.sz:=by rw[<-R.len c0 (List.mem_of_getElem? kB)];exact(List.getElem?_eq_some_iff.1 mz).1
        obtain⟨c1,a1,v,e1,e2,hv,mV⟩:=cell i j l5 iv
        rw[kB]at e1;injection e1 with e1;subst e1
        rw[mz]at e2;injection e2 with e2;subst e2
        simp only[hv,Option.getD_some]
        exact((ih _ _ _ mV I7).2 (R.flat c0 (List.mem_of_getElem? kB) a0 (List.mem_of_getElem? mz))).1
     ·simp at h
    ·simp at h
   ·simp at h
  |ptr id i off=>
   rw[fz]at h
   split at h
   ·rename_i row hg
    split at h
    ·rename_i hw
     split at h
     ·rename_i c0 kB
      simp only[Option.map_eq_some_iff]at h
      obtain⟨cs,eD,rfl⟩:=h
      obtain⟨B,hB,R,Rr⟩:=zQ id row hg hw
      obtain⟨B',rfl,eG,hk⟩:=jy hr
      rw[hB]at eG;injection eG with eG;subst eG
      replace R:=R.row hk
      obtain⟨l1,l2⟩:=iJ eD
      have at_:∀j b,cs[j]? =some b->∃a0 v,w.cell? ⟨B.b,i*B.sz+off+j,none⟩=some v/\dy P w D ι a0 v/\a0.cell=true/\fz g n a0=some b:=fun j b hj=>by
       obtain⟨a0,mz,hf⟩:=l2 j b hj
       rw[List.getElem?_drop]at mz
       obtain⟨v,hv,mV⟩:=R.at_ _ _ _ _ kB mz
       refine⟨a0,v,?_,mV,R.flat c0 (List.mem_of_getElem? kB) a0 (List.mem_of_getElem? mz),hf⟩
       rw[R.sz,Nat.add_assoc];exact hv
      refine both (.dv cs B.b _ (fun j=>(w.cell? ⟨B.b,i*B.sz+off+j,none⟩).getD undef) Rr (fun b hb=>?_) (fun j hj=>?_) (fun j b hj=>?_)) rfl
      ·obtain⟨j,hj,rfl⟩:=List.getElem_of_mem hb
       obtain⟨a0,v,_,mV,hc,hf⟩:=at_ j _ (List.getElem?_eq_getElem hj)
       exact((ih _ _ _ mV hf).2 hc).2
      ·obtain⟨a0,v,hv,_⟩:=at_ j _ (List.getElem?_eq_getElem hj)
       simp only[hv,Option.getD_some]
      ·obtain⟨a0,v,hv,mV,hc,hf⟩:=at_ j b hj
       simp only[hv,Option.getD_some]
       exact((ih _ _ _ mV hf).2 hc).1
     ·simp at h
    ·simp at h
   ·simp at h
  |agg cs=>
   rw[fz]at h
   simp only[Option.map_eq_some_iff]at h
   obtain⟨r',pS,rfl⟩:=h
   obtain⟨vs,f,rfl,h1,h2,h3,h4⟩:=jN hr
   obtain⟨l1,l2⟩:=iJ pS
   have hI:ly P w D2 (.agg r') (.agg vs):=.agg r' vs f (by rw[h1,l1]) (fun b hb=>by
    obtain⟨j,hj,rfl⟩:=List.getElem_of_mem hb
    obtain⟨a0,mz,hf⟩:=l2 j _ (List.getElem?_eq_getElem hj)
    exact((ih _ _ _ (h4 j a0 mz) hf).2 (h2 a0 (List.mem_of_getElem? mz))).2) (fun j hj=>h3 j (by rw[<-l1];exact hj)) (fun j b hj=>by
    obtain⟨a0,mz,hf⟩:=l2 j b hj
    exact((ih _ _ _ (h4 j a0 mz) hf).2 (h2 a0 (List.mem_of_getElem? mz))).1)
   exact⟨.fy _ _ hI,fun hc=>by simp[AV.cell]at hc⟩
  |ib cs=>
   rw[fz]at h
   simp only[Option.map_eq_some_iff]at h
   obtain⟨r',pS,rfl⟩:=h
   obtain⟨vs,f,rfl,h1,h3,h4⟩:=xS hr
   obtain⟨l1,l2⟩:=iJ pS
   exact⟨.ib r' vs f (by rw[h1,l1]) (fun j hj=>h3 j (by rw[<-l1];exact hj)) (fun j b hj=>by
    obtain⟨a0,mz,hf⟩:=l2 j b hj
    exact(ih _ _ _ (h4 j a0 mz) hf).1),fun hc=>by simp[AV.cell]at hc⟩
  |fn f dG=>
   rw[fz]at h
   split at h
   ·rename_i eP
    simp only[Option.map_eq_some_iff]at h
    obtain⟨r',pS,rfl⟩:=h
    obtain⟨vs,q,rfl,h0,h1,h3,h4⟩:=CF hr
    obtain⟨l1,l2⟩:=iJ pS
    exact both (.fn f r' vs q h0 (by rw[h1,l1]) (fun j hj=>h3 j (by rw[<-l1];exact hj)) (fun j b hj=>by
     obtain⟨a0,mz,hf⟩:=l2 j b hj
     exact((ih _ _ _ (h4 j a0 mz) hf).2 (List.all_eq_true.1 eP a0 (List.mem_of_getElem? mz))).1)) rfl
   ·simp at h
  |int k m=>rw[fz]at h<;>(try simp at h)<;>(try subst h)<;>(try(rw[ew hr];exact⟨.fy _ _ (.int _ _),fun _=>⟨.int _ _,rfl⟩⟩))<;>(try(intros;simp_all))
  |bool b=>rw[fz]at h<;>(try simp at h)<;>(try subst h)<;>(try(rw[gj hr];exact⟨.fy _ _ (.bool _),fun _=>⟨.bool _,rfl⟩⟩))<;>(try(intros;simp_all))
  |str b=>rw[fz]at h<;>(try simp at h)<;>(try subst h)<;>(try(rw[gM hr];exact⟨.fy _ _ (.str _),fun _=>⟨.str _,rfl⟩⟩))<;>(try(intros;simp_all))
  |ck=>rw[fz]at h<;>(try simp at h)<;>(try subst h)<;>(try(rw[lu hr];exact⟨.fy _ _ .ck,fun _=>⟨.ck,rfl⟩⟩))<;>(try(intros;simp_all))
  |jS=>rw[fz]at h<;>(try simp at h)<;>(try subst h)<;>(try(rw[zm hr];exact⟨.fy _ _ .jS,fun _=>⟨.jS,rfl⟩⟩))<;>(try(intros;simp_all))
  |j6=>rw[fz]at h<;>(try simp at h)<;>(try subst h)<;>(try(rw[E0 hr];exact⟨.fy _ _ .j6,fun _=>⟨.j6,rfl⟩⟩))<;>(try(intros;simp_all))
  |wR f dG=>rw[fz]at h<;>(try simp at h)<;>(try(intros;simp_all))
  |iZ=>rw[fz]at h<;>(try simp at h)<;>(try subst h)<;>(try(cases hr with|fy _ _ hr=>exact both (hr.frame (fun _ _=>rfl) hD) rfl))<;>(try(intros;simp_all))
  |sl rows=>rw[fz]at h<;>(try simp at h)<;>(try subst h)<;>(try(cases hr with|fy _ _ hr=>exact both (hr.frame (fun _ _=>rfl) hD) rfl))<;>(try(intros;simp_all))
  |dv cs=>rw[fz]at h<;>(try simp at h)<;>(try subst h)<;>(try(cases hr with|fy _ _ hr=>exact both (hr.frame (fun _ _=>rfl) hD) rfl))<;>(try(intros;simp_all))
theorem jQ:∀{n:Nat} {l r:List AV},fb g n l=some r->r.length=l.length/\∀(j:Nat) (b:AV),r[j]? =some b->∃a,l[j]? =some a/\gU g n a=some b
 |n,[],r,h=>by
  rw[fb]at h;simp at h;subst h;simp
 |n,a::l,r,h=>by
  rw[fb]at h
  split at h
  ·rename_i b hb
   simp only[Option.map_eq_some_iff]at h
   obtain⟨r',hr,rfl⟩:=h
   obtain⟨h1,h2⟩:=jQ hr
   refine⟨by simp[h1],fun j c hj=>?_⟩
   cases j with
   |zero=>simp at hj;subst hj;exact⟨a,rfl,hb⟩
   |succ j=>simp at hj ⊢;exact h2 j c hj
  ·simp at h
theorem wD:∀{n:Nat} {l r:List (List AV)},iu g n l=some r->r.length=l.length/\∀(j:Nat) (b:List AV),r[j]? =some b->∃a,l[j]? =some a/\fb g n a=some b
 |n,[],r,h=>by
  rw[iu]at h;simp at h;subst h;simp
 |n,a::l,r,h=>by
  rw[iu]at h
  split at h
  ·rename_i b hb
   simp only[Option.map_eq_some_iff]at h
   obtain⟨r',hr,rfl⟩:=h
   obtain⟨h1,h2⟩:=wD hr
   refine⟨by simp[h1],fun j c hj=>?_⟩
   cases j with
   |zero=>simp at hj;subst hj;exact⟨a,rfl,hb⟩
   |succ j=>simp at hj ⊢;exact h2 j c hj
  ·simp at h
theorem IV (zQ:∀id row,g id=some row->row.w=true->∃B,ι id=some B/\jk P w D ι B row/\D2 B.b):∀(n:Nat) (a:AV) (u:Value) (r:AV),dy P w D ι a u->gU g n a=some r->dy P w D2 ι2 r u/\(a.cell=true->ly P w D2 r u/\r.cell=true):=by
 intro n
 induction n with
 |zero=>intro a u r _ h;rw[gU]at h;simp at h
 |succ n ih=>
  intro a u r hr h
  have both:∀{r:AV},ly P w D2 r u->r.cell=true->dy P w D2 ι2 r u/\(a.cell=true->ly P w D2 r u/\r.cell=true):=fun h1 h2=>⟨.fy _ _ h1,fun _=>⟨h1,h2⟩⟩
  cases a with
  |map id m=>rw[gU]at h<;>simp_all
  |tQ id=>rw[gU]at h<;>simp_all
  |own id off len=>
   rw[gU]at h
   split at h
   ·rename_i row hg
    split at h
    ·rename_i hw
     split at h
     ·rename_i hle
      simp only[Option.map_eq_some_iff]at h
      obtain⟨rows,qC,rfl⟩:=h
      obtain⟨B,hB,R,Rr⟩:=zQ id row hg hw
      obtain⟨o,cap,B',rfl,eG,h1,h2,h3,h4,hk⟩:=jO hr
      rw[hB]at eG;injection eG with eG;subst eG
      replace R:=R.row hk
      obtain⟨l1,l2⟩:=wD qC
      have hlen:rows.length=len:=by rw[l1];simp;omega
      by_cases h0:rows=[]
      ·subst h0
       simp at hlen;subst hlen
       exact both (.Db _ _ h4) rfl
      ·have hlp:0<len:=by rw[<-hlen];exact List.length_pos_iff.2 h0
       have ho:o=off*B.sz:=by rcases h2 with h2|h2<;>omega
       have src:∀i cs,rows[i]? =some cs->∃c0,row.rows[off+i]? =some c0/\fb g n c0=some cs:=fun i cs hi=>by
        obtain⟨c0,kB,hf⟩:=l2 i cs hi
        rw[List.getElem?_take]at kB
        split at kB
        ·rw[List.getElem?_drop]at kB;exact⟨c0,kB,hf⟩
        ·simp at kB
       have cell:∀i j,i<len->j<row.sz->∃c0 a0 v,row.rows[off+i]? =some c0/\c0[j]? =some a0/\w.cell? ⟨B.b,o+(i*row.sz+j),none⟩=some v/\dy P w D ι a0 v:=fun i j hi hj=>by
        have tA:off+i<row.rows.length:=ae
        have e1:=List.getElem?_eq_getElem tA
        have NC:j<row.rows[off+i].length:=by rw[R.len _ (List.getElem_mem tA)];exact hj
        obtain⟨v,hv,mV⟩:=R.at_ _ _ _ _ e1 (List.getElem?_eq_getElem NC)
        refine⟨_,_,v,e1,List.getElem?_eq_getElem NC,?_,mV⟩
        rw[ho,R.sz,<-hv]
        congr 2
        rw[Nat.add_mul];omega
       refine both (.sl rows B.b o len cap row.sz (fun i j=>(w.cell? ⟨B.b,o+(i*row.sz+j),none⟩).getD undef) hlen h1 h4 Rr (fun cs eD=>?_) (fun cs eD b hb=>?_) (fun i j hi hj=>?_) (fun i j cs b hi hj=>?_)) rfl
       ·obtain⟨i,hi,rfl⟩:=List.getElem_of_mem eD
        obtain⟨c0,kB,hf⟩:=src i _ (List.getElem?_eq_getElem hi)
        rw[(jQ hf).1];exact R.len c0 (List.mem_of_getElem? kB)
       ·obtain⟨i,hi,rfl⟩:=List.getElem_of_mem eD
        obtain⟨c0,kB,hf⟩:=src i _ (List.getElem?_eq_getElem hi)
        obtain⟨j,hj,rfl⟩:=List.getElem_of_mem hb
        obtain⟨a0,mz,I7⟩:=(jQ hf).2 j _ (List.getElem?_eq_getElem hj)
        obtain⟨v,_,mV⟩:=R.at_ _ _ _ _ kB mz
        exact((ih _ _ _ mV I7).2 (R.flat c0 (List.mem_of_getElem? kB) a0 (List.mem_of_getElem? mz))).2
       ·obtain⟨c0,a0,v,_,_,hv,_⟩:=cell i j hi hj
        simp only[hv,Option.getD_some]
       ·obtain⟨c0,kB,hf⟩:=src i cs hi
        obtain⟨a0,mz,I7⟩:=(jQ hf).2 j b hj
        have l5:i<len:=by rw[<-hlen];exact(List.getElem?_eq_some_iff.1 hi).1
        have iv:j<row.sz:=by rw[<-R.len c0 (List.mem_of_getElem? kB)];exact(List.getElem?_eq_some_iff.1 mz).1
        obtain⟨c1,a1,v,e1,e2,hv,mV⟩:=cell i j l5 iv
        rw[kB]at e1;injection e1 with e1;subst e1
        rw[mz]at e2;injection e2 with e2;subst e2
        simp only[hv,Option.getD_some]
        exact((ih _ _ _ mV I7).2 (R.flat c0 (List.mem_of_getElem? kB) a0 (List.mem_of_getElem? mz))).1
     ·simp at h
    ·simp at h
   ·simp at h
  |ptr id i off=>
   rw[gU]at h
   split at h
   ·rename_i row hg
    split at h
    ·rename_i hw
     split at h
     ·rename_i c0 kB
      simp only[Option.map_eq_some_iff]at h
      obtain⟨cs,eD,rfl⟩:=h
      obtain⟨B,hB,R,Rr⟩:=zQ id row hg hw
      obtain⟨B',rfl,eG,hk⟩:=jy hr
      rw[hB]at eG;injection eG with eG;subst eG
      replace R:=R.row hk
      obtain⟨l1,l2⟩:=jQ eD
      have at_:∀j b,cs[j]? =some b->∃a0 v,w.cell? ⟨B.b,i*B.sz+off+j,none⟩=some v/\dy P w D ι a0 v/\a0.cell=true/\gU g n a0=some b:=fun j b hj=>by
       obtain⟨a0,mz,hf⟩:=l2 j b hj
       rw[List.getElem?_drop]at mz
       obtain⟨v,hv,mV⟩:=R.at_ _ _ _ _ kB mz
       refine⟨a0,v,?_,mV,R.flat c0 (List.mem_of_getElem? kB) a0 (List.mem_of_getElem? mz),hf⟩
       rw[R.sz,Nat.add_assoc];exact hv
      refine both (.dv cs B.b _ (fun j=>(w.cell? ⟨B.b,i*B.sz+off+j,none⟩).getD undef) Rr (fun b hb=>?_) (fun j hj=>?_) (fun j b hj=>?_)) rfl
      ·obtain⟨j,hj,rfl⟩:=List.getElem_of_mem hb
       obtain⟨a0,v,_,mV,hc,hf⟩:=at_ j _ (List.getElem?_eq_getElem hj)
       exact((ih _ _ _ mV hf).2 hc).2
      ·obtain⟨a0,v,hv,_⟩:=at_ j _ (List.getElem?_eq_getElem hj)
       simp only[hv,Option.getD_some]
      ·obtain⟨a0,v,hv,mV,hc,hf⟩:=at_ j b hj
       simp only[hv,Option.getD_some]
       exact((ih _ _ _ mV hf).2 hc).1
     ·simp at h
    ·simp at h
   ·simp at h
  |agg cs=>
   rw[gU]at h
   simp only[Option.map_eq_some_iff]at h
   obtain⟨r',pS,rfl⟩:=h
   obtain⟨vs,f,rfl,h1,h2,h3,h4⟩:=jN hr
   obtain⟨l1,l2⟩:=jQ pS
   have hI:ly P w D2 (.agg r') (.agg vs):=.agg r' vs f (by rw[h1,l1]) (fun b hb=>by
    obtain⟨j,hj,rfl⟩:=List.getElem_of_mem hb
    obtain⟨a0,mz,hf⟩:=l2 j _ (List.getElem?_eq_getElem hj)
    exact((ih _ _ _ (h4 j a0 mz) hf).2 (h2 a0 (List.mem_of_getElem? mz))).2) (fun j hj=>h3 j (by rw[<-l1];exact hj)) (fun j b hj=>by
    obtain⟨a0,mz,hf⟩:=l2 j b hj
    exact((ih _ _ _ (h4 j a0 mz) hf).2 (h2 a0 (List.mem_of_getElem? mz))).1)
   exact⟨.fy _ _ hI,fun hc=>by simp[AV.cell]at hc⟩
  |ib cs=>
   rw[gU]at h
   simp only[Option.map_eq_some_iff]at h
   obtain⟨r',pS,rfl⟩:=h
   obtain⟨vs,f,rfl,h1,h3,h4⟩:=xS hr
   obtain⟨l1,l2⟩:=jQ pS
   exact⟨.ib r' vs f (by rw[h1,l1]) (fun j hj=>h3 j (by rw[<-l1];exact hj)) (fun j b hj=>by
    obtain⟨a0,mz,hf⟩:=l2 j b hj
    exact(ih _ _ _ (h4 j a0 mz) hf).1),fun hc=>by simp[AV.cell]at hc⟩
  |fn f dG=>rw[gU]at h<;>(try simp at h)<;>(try(intros;simp_all))
  |int k m=>rw[gU]at h<;>(try simp at h)<;>(try subst h)<;>(try(rw[ew hr];exact⟨.fy _ _ (.int _ _),fun _=>⟨.int _ _,rfl⟩⟩))<;>(try(intros;simp_all))
  |bool b=>rw[gU]at h<;>(try simp at h)<;>(try subst h)<;>(try(rw[gj hr];exact⟨.fy _ _ (.bool _),fun _=>⟨.bool _,rfl⟩⟩))<;>(try(intros;simp_all))
  |str b=>rw[gU]at h<;>(try simp at h)<;>(try subst h)<;>(try(rw[gM hr];exact⟨.fy _ _ (.str _),fun _=>⟨.str _,rfl⟩⟩))<;>(try(intros;simp_all))
  |ck=>rw[gU]at h<;>(try simp at h)<;>(try subst h)<;>(try(rw[lu hr];exact⟨.fy _ _ .ck,fun _=>⟨.ck,rfl⟩⟩))<;>(try(intros;simp_all))
  |jS=>rw[gU]at h<;>(try simp at h)<;>(try subst h)<;>(try(rw[zm hr];exact⟨.fy _ _ .jS,fun _=>⟨.jS,rfl⟩⟩))<;>(try(intros;simp_all))
  |j6=>rw[gU]at h<;>(try simp at h)<;>(try subst h)<;>(try(rw[E0 hr];exact⟨.fy _ _ .j6,fun _=>⟨.j6,rfl⟩⟩))<;>(try(intros;simp_all))
  |wR f dG=>rw[gU]at h<;>(try simp at h)<;>(try(intros;simp_all))
  |iZ=>rw[gU]at h<;>(try simp at h)<;>(try subst h)<;>(try(cases hr with|fy _ _ hr=>cases hr;exact both .iZ rfl))<;>(try(intros;simp_all))
  |sl rows=>rw[gU]at h<;>(try simp at h)<;>(try(intros;simp_all))
  |dv cs=>rw[gU]at h<;>(try simp at h)<;>(try(intros;simp_all))
end
end Go.Proofs.YtiabgllilcfheaaGreat.V

namespace Go.Proofs.YtiabgllilcfheaaGreat.V
open Go.RowKit
variable {P:Program} {w w':World} {D D':Nat->Prop} {ι ι':Names}
section
variable {g:Rows} {hs:Nat} {env:Env} {a:Act} {o:Oper} {id:Id} {v:AV}
theorem iD.J6 (S:iD P hs D ι g w) {i:Id} {r r':Row} {B:uS} {ob:Obj} (hid:g i=some r) (hw:r.w=true) (hB:ι i=some B)
  (hR:(∀a v,dy P w D ι a v->dy P {w with heap:=w.heap.setIfInBounds B.b ob} D ι a v)->(w.heap.setIfInBounds B.b ob)[B.b]? =some ob->jk P {w with heap:=w.heap.setIfInBounds B.b ob} D ι B r'):
  iD P hs D ι (bK g i r') {w with heap:=w.heap.setIfInBounds B.b ob}/\Step hs D ι w D ι {w with heap:=w.heap.setIfInBounds B.b ob}:=by
 obtain⟨B0,DX,R,kI,re⟩:=S.row i r hid
 rw[hB]at DX;injection DX with DX;subst DX
 have other:∀b,b≠B.b->(w.heap.setIfInBounds B.b ob)[b]? =w.heap[b]? :=fun b hb=>by simp[Ne.symm hb]
 have hd:∀b,D b->(w.heap.setIfInBounds B.b ob)[b]? =w.heap[b]? :=fun b hb=>other b (by rintro rfl;exact re hw hb)
 have hr:∀a v,dy P w D ι a v->dy P {w with heap:=w.heap.setIfInBounds B.b ob} D ι a v:=fun a v h=>h.frame hd (fun _ h=>h) (fun _ _ h=>h)
 refine⟨⟨by simpa using S.lo,fun b hb=>by simpa using S.dead b hb,fun j q h=>?_,fun j j' q q' C C' h h' LD hC xj he=>?_⟩,⟨⟨rfl,rfl,rfl,by simp,fun k hk=>other k (by have:=kI hw;omega)⟩,hd,fun _ h=>h,fun _ _ h=>h,fun _ h=>.inl h⟩⟩
 ·unfold bK at h
  split at h
  ·rename_i e
   subst e
   injection h with h;subst h
   exact⟨B,hB,hR hr (by simp[R.lt]),fun _=>kI hw,fun _=>re hw⟩
  ·rename_i e
   obtain⟨C,hC,RC,k1,k2⟩:=S.row j q h
   refine⟨C,hC,RC.frame (other C.b (fun Kj=>e ?_)) hr,k1,k2⟩
   exact(S.inj i j r q B C hid h hw hB hC Kj.symm).symm
 ·unfold bK at h h'
  have get:∀j p,(if j=i then some r' else g j)=some p->∃p0,g j=some p0/\(p.w=true->p0.w=true):=fun j p hp=>by
   split at hp
   ·rename_i e;subst e;injection hp with hp;subst hp;exact⟨r,hid,fun _=>hw⟩
   ·exact⟨p,hp,fun h=>h⟩
  obtain⟨p,hp,Uy⟩:=get _ _ h
  obtain⟨p',RV,_⟩:=get _ _ h'
  exact S.inj j j' p p' C C' hp RV (Uy LD) hC xj he
theorem Hu {s:TS} {x y:AV} {u v:Value} (he:fJ s x y=some true) (hx:dy P w D ι x u) (hy:dy P w D ι y v):u=v/\∀n,Instr.sameBits n u v=true:=by
 unfold fJ at he
 split at he
 ·split at he
  ·rename_i hk
   subst hk
   simp at he;subst he
   rw[ew hx,ew hy]
   exact⟨rfl,fun n=>by cases n<;>simp[Instr.sameBits]⟩
  ·cases he
 ·simp at he;subst he
  rw[gj hx,gj hy]
  exact⟨rfl,fun n=>by cases n<;>simp[Instr.sameBits]⟩
 ·simp at he;subst he
  rw[gM hx,gM hy]
  exact⟨rfl,fun n=>by cases n<;>simp[Instr.sameBits,KK]⟩
 ·cases he
theorem DJ {n:Nat}:∀{ts:List TS} {xs ys:List AV} {vs us:List Value},fa ts xs ys=some true->vs.length=xs.length->us.length=ys.length->(∀(j:Nat) (a:AV),xs[j]? =some a->∃u,vs[j]? =some u/\dy P w D ι a u)->(∀(j:Nat) (a:AV),ys[j]? =some a->∃u,us[j]? =some u/\dy P w D ι a u)->
  us.length=vs.length/\(us.zip vs).all (fun p=>Instr.sameBits n p.1 p.2)=true
 |[],[],[],vs,us,_,h1,h2,_,_=>by
  cases vs<;>cases us<;>simp_all
 |[],x::xs,ys,vs,us,h,_,_,_,_=>by simp[fa]at h
 |[],[],y::ys,vs,us,h,_,_,_,_=>by simp[fa]at h
 |t::ts,[],ys,vs,us,h,_,_,_,_=>by simp[fa]at h
 |t::ts,x::xs,[],vs,us,h,_,_,_,_=>by simp[fa]at h
 |t::ts,x::xs,y::ys,[],us,h,h1,_,_,_=>by simp at h1
 |t::ts,x::xs,y::ys,v::vs,[],h,_,h2,_,_=>by simp at h2
 |t::ts,x::xs,y::ys,v::vs,u::us,h,h1,h2,hx,hy=>by
  unfold fa at h
  split at h
  ·rename_i a b ha hb
   simp only[Option.some.injEq,Bool.and_eq_true]at h
   obtain⟨rfl,rfl⟩:=h
   obtain⟨v',pM,rv⟩:=hx 0 x rfl
   obtain⟨u',HM,ru⟩:=hy 0 y rfl
   simp at pM HM;subst pM;subst HM
   obtain⟨e1,e2⟩:=Hu ha rv ru
   obtain⟨q1,q2⟩:=DJ (n:=n) hb (by simpa using h1) (by simpa using h2) (fun j a hj=>by simpa using hx (j+1) a (by simpa using hj)) (fun j a hj=>by simpa using hy (j+1) a (by simpa using hj))
   refine⟨by simp[q1],?_⟩
   simp only[List.zip_cons_cons,List.all_cons,q2,Bool.and_true]
   rw[<-e1]
   have:=e2 n
   rw[<-e1]at this
   exact this
  ·cases h
theorem EL {m:MK} {key:List AV}:∀{rows:List (List AV)} {i j:Nat},iy m key rows i=some (some j)->∃cs,i<=j/\rows[j-i]? =some cs/\fa m.ts key (cs.take m.ks)=some true
 |[],i,j,h=>by simp[iy]at h
 |cs::rows,i,j,h=>by
  unfold iy at h
  split at h
  ·rename_i hq
   simp at h;subst h
   exact⟨cs,Nat.le_refl _,by simp,hq⟩
  ·obtain⟨c,h1,h2,h3⟩:=EL h
   exact⟨c,ae,by rw[show j-i=(j-(i+1))+1 by omega];simpa using h2,h3⟩
  ·cases h
theorem yZ {m:MK} {k:AV} {rows:List (List AV)} {fi:Option Nat} (h:gW m k rows=some fi):k.isAgg=m.ka/\k.cells.length=m.ks/\(k.cells.all AV.cell=true)/\iy m k.cells rows 0=some fi:=by
 unfold gW at h
 split at h
 ·rename_i hc;exact⟨hc.1,hc.2.1,hc.2.2,h⟩
 ·cases h
theorem Mp {m:MK} {k y:AV} (h1:k.isAgg=m.ka) (h2:k.cells.length=m.ks):part m.ka m.ks (k.cells++[y])=some k/\(k.cells++[y])[m.ks]? =some y:=by
 refine⟨?_,by rw[List.getElem?_append_right ae,h2,Nat.sub_self];rfl⟩
 cases hk:m.ka with
 |false=>
  rw[hk]at h1
  rw[ym h1];rfl
 |true=>
  rw[hk]at h1
  cases k<;>simp[AV.isAgg]at h1
  rename_i cs
  simp only[AV.cells]at h2 ⊢
  simp only[part,if_true]
  rw[if_pos (by simp;omega),<-h2,List.take_left']
  rfl
theorem stays {k:TypeId} {m:MK} (hK:Hf P k m) {key kv:AV} {u Bf:Value} {cs:List AV} (h1:key.isAgg=m.ka) (hr:dy P w D ι key u) (hp:part m.ka m.ks cs=some kv) (ho:dy P w D ι kv Bf) (he:fa m.ts key.cells (cs.take m.ks)=some true):(Instr.keyThatStays Bf u).run P w=.ok u w:=by
 have hs:Instr.sameBits 10000 Bf u=true:=by
  rcases hK with⟨s,rfl,hs⟩|⟨fs,ts,rfl,ua,z8,ev,eP⟩
  ·rw[ym h1]at he
   cases cs with
   |nil=>simp[part]at hp
   |cons c l=>
    simp[part]at hp;subst hp
    simp only[MK.ks,List.length_cons,List.length_nil,Nat.zero_add,List.take_succ_cons,List.take_zero,fa]at he
    cases hq:fJ s key c with
    |none=>rw[hq]at he;simp at he
    |some b=>
     rw[hq]at he;simp at he;subst he
     obtain⟨e1,e2⟩:=Hu hq hr ho
     rw[<-e1]
     have:=e2 10000
     rwa [<-e1]at this
  ·cases key<;>simp[AV.isAgg]at h1
   rename_i ks
   simp only[part,if_true]at hp
   split at hp
   ·simp only[Option.some.injEq]at hp;subst hp
    obtain⟨vs,rfl,n1,r1⟩:=ux hr
    obtain⟨us,rfl,n2,r2⟩:=ux ho
    obtain⟨q1,q2⟩:=DJ (n:=9999) (vs:=vs.toList) (us:=us.toList) he (by simpa[AV.cells]using n1) (by simpa using n2) (fun j a hj=>by simpa using r1 j a hj) (fun j a hj=>by simpa using r2 j a hj)
    simp only[Instr.sameBits,Bool.and_eq_true,beq_iff_eq]
    exact⟨by simpa using q1,q2⟩
   ·cases hp
 simp[Instr.keyThatStays,hs]
theorem MM {es:Array MapEntry} {clock:Nat} (h:NU es clock) (k v:Value):NU (es.push ⟨k,v,clock⟩) (clock+1):=by
 refine⟨fun x hx=>?_,?_⟩
 ·simp only[Array.toList_push,List.mem_append,List.mem_singleton]at hx
  rcases hx with hx|rfl
  ·have:=h.1 x hx;omega
  ·exact Nat.lt_succ_self _
 ·simp only[Array.toList_push,List.map_append,List.map_cons,List.map_nil]
  refine List.nodup_append.2 ⟨h.2,by simp,fun a ha b hb=>?_⟩
  obtain⟨x,hx,rfl⟩:=List.mem_map.1 ha
  simp at hb;subst hb
  have:=h.1 x hx;omega
theorem G1 {es:Array MapEntry} {clock:Nat} (h:NU es clock) (j:Nat) (k v:Value):NU (es.modify j fun e=>{e with key:=k,val:=v}) clock:=by
 have e:(es.modify j fun e=>{e with key:=k,val:=v}).toList.map (·.born)=es.toList.map (·.born):=by
  refine List.ext_getElem? fun i=>?_
  simp only[List.getElem?_map,Array.getElem?_toList,Array.getElem?_modify]
  split
  ·cases es[i]? <;>rfl
  ·rfl
 refine⟨fun x hx=>?_,by rw[e];exact h.2⟩
 have hb:x.born∈(es.modify j fun e=>{e with key:=k,val:=v}).toList.map (·.born):=List.mem_map_of_mem hx
 rw[e]at hb
 obtain⟨y,hy,hyb⟩:=List.mem_map.1 hb
 rw[<-hyb];exact h.1 y hy
theorem J0 {es:Array MapEntry} {clock:Nat} (h:NU es clock) {j:Nat} (hj:j<es.size):NU (es.eraseIdxIfInBounds j) clock:=by
 have e:(es.eraseIdxIfInBounds j).toList=es.toList.eraseIdx j:=by
  unfold Array.eraseIdxIfInBounds
  rw[dif_pos hj,Array.toList_eraseIdx]
 refine⟨fun x hx=>h.1 x ((List.eraseIdx_sublist _ _).subset (by rwa [e]at hx)),?_⟩
 rw[e]
 exact((List.eraseIdx_sublist es.toList j).map (·.born)).nodup h.2
theorem DN {k y:AV} (h1:k.cells.all AV.cell=true) (h2:y.cell=true):∀a∈k.cells++[y],a.cell=true:=fun a ha=>by
 rcases List.mem_append.1 ha with ha|ha
 ·exact List.all_eq_true.1 h1 a ha
 ·rw[List.mem_singleton.1 ha];exact h2
theorem Rb {t:TypeId} {x k y:Operand} {m:MK} {z:K} {x' k' y':O} {g':Rows} (S:iD P hs D ι g w) (E:di P w D ι env a) (ho:o.op=.mapUpdate t x k y∨o.op=.insert t x k y) (hc:u9 P t=some (m,z)) (hx:cO P x=some x') (hk:cO P k=some k') (hy:cO P y=some y')
  (hv:bJ (.set m) [du env x',du env k',du env y'] g=some g'):Fy P hs a o w D ι id .undef g':=by
 obtain⟨kt,e,i,zv,ht,hi,yM,Xt,hK⟩:=tN hc
 simp only[bJ,Option.bind_eq_some_iff]at hv
 obtain⟨p,hp,fi,I8,hv⟩:=hv
 split at hv
 ·rename_i hcond
  obtain⟨hw,hyc,_⟩:=hcond
  simp only[Option.some.injEq]at hv;subst hv
  obtain⟨B,hu,hg,hB,xG,es,clock,hb,e9,hlen,hM⟩:=Ct S (ek E hx) hp
  have rk:=ek E hk
  have ry:=ek E hy
  obtain⟨RH,res,hf,hF⟩:=yy (B:=B) hK rk e9 hM I8
  obtain⟨k1,k2,k3,k4⟩:=yZ I8
  obtain⟨B',eG,R,_⟩:=S.row p.1 p.2 hg
  rw[hB]at eG;injection eG with eG;subst eG
  obtain⟨pk1,pk2⟩:=Mp (y:=du env y') k1 k2
  have ji:(getObj B.b).run P w=.ok (.map es clock) w:=MapKept.run_getObj_map hb
  rcases hF with⟨rfl,rfl⟩|⟨j,en,rfl,he,rfl⟩
  ·have pK:=S.J6 (ob:=.map (es.push ⟨a.eval k,a.eval y,clock⟩) (clock+1)) (r':={p.2 with rows:=dL p.2.rows ((du env k').cells++[du env y']) none}) hg hw hB fun hr lG=>⟨R.sz,fun cs eD=>?_,fun xk=>(by rw[xG]at xk;cases xk),fun m' Eb=>?_,fun c hc=>(by rw[xG]at hc;cases hc)⟩
   ·refine⟨undef,_,ι,.inr ⟨?_,rfl⟩,pK.2,pK.1,dy.undef,fun _ _=>rfl⟩
    rcases ho with ho|ho<;>
    ·simp only[execOp,ho,Instr.mapUpdate,hu,Sem.run_bind,run_underlying ht,Result.andThen_ok,ji,RH,hf,MapKept.run_setObj_map _ hb,Sem.run_pure]
   ·rcases List.mem_append.1 eD with h|h
    ·exact R.flat cs h
    ·rw[List.mem_singleton.1 h];exact DN k3 hyc
   ·rw[xG]at Eb;simp only[Option.some.injEq,BK.map.injEq]at Eb;subst Eb
    refine⟨(R.map m xG).1,_,_,lG,by simp[dL,e9],⟨fun cs eD=>?_,MM hlen.2 _ _⟩,fun q cs hq=>?_⟩
    ·rcases List.mem_append.1 eD with h|h
     ·exact hlen.1 cs h
     ·rw[List.mem_singleton.1 h];simp[k2]
    ·rcases Nat.lt_or_ge q p.2.rows.length with eM|kC
     ·simp only[dL]at hq
      rw[List.getElem?_append_left eM]at hq
      obtain⟨en,kv,vv,q1,q2,q3,q4,q5⟩:=hM q cs hq
      exact⟨en,kv,vv,by rw[Array.getElem?_push_lt ae];rw[Array.getElem?_eq_getElem ae]at q1;simpa using q1,q2,q3,hr _ _ q4,hr _ _ q5⟩
     ·simp only[dL]at hq
      rw[List.getElem?_append_right kC]at hq
      have Ql:q=p.2.rows.length:=by
       have:=(List.getElem?_eq_some_iff.1 hq).1
       simp at this;omega
      subst Ql
      simp at hq;subst hq
      exact⟨⟨a.eval k,a.eval y,clock⟩,_,_,by rw[<-e9];simp,pk1,pk2,hr _ _ rk,hr _ _ ry⟩
  ·simp only[Nat.zero_add]at k4 I8 hf ⊢
   obtain⟨cs0,_,Ot,heq⟩:=EL k4
   simp only[Nat.sub_zero]at Ot
   obtain⟨Vb,kv,vv,q1,q2,_,q4,_⟩:=hM j cs0 Ot
   have YY:Vb=en:=by
    have h1:es.toList[j]? =some Vb:=by simpa using q1
    rw[he]at h1;injection h1 with h1;exact h1.symm
   subst YY
   have ev:=stays (w:=w) hK k1 rk q2 q4 heq
   have pK:=S.J6 (ob:=.map (es.modify j fun e=>{e with key:=a.eval k,val:=a.eval y}) clock) (r':={p.2 with rows:=dL p.2.rows ((du env k').cells++[du env y']) (some j)}) hg hw hB fun hr lG=>⟨R.sz,fun cs eD=>?_,fun xk=>(by rw[xG]at xk;cases xk),fun m' Eb=>?_,fun c hc=>(by rw[xG]at hc;cases hc)⟩
   ·refine⟨undef,_,ι,.inr ⟨?_,rfl⟩,pK.2,pK.1,dy.undef,fun _ _=>rfl⟩
    rcases ho with ho|ho<;>
    ·simp only[execOp,ho,Instr.mapUpdate,hu,Sem.run_bind,run_underlying ht,Result.andThen_ok,ji,RH,hf,q1,Option.map_some,Option.getD_some,ev,MapKept.run_setObj_map _ hb,Sem.run_pure]
   ·rcases List.mem_or_eq_of_mem_set eD with h|h
    ·exact R.flat cs h
    ·rw[h];exact DN k3 hyc
   ·rw[xG]at Eb;simp only[Option.some.injEq,BK.map.injEq]at Eb;subst Eb
    have iv:=(List.getElem?_eq_some_iff.1 Ot).1
    refine⟨(R.map m xG).1,_,_,lG,by simp[dL,e9],⟨fun cs eD=>?_,G1 hlen.2 _ _ _⟩,fun q cs hq=>?_⟩
    ·rcases List.mem_or_eq_of_mem_set eD with h|h
     ·exact hlen.1 cs h
     ·rw[h];simp[k2]
    ·simp only[dL,List.getElem?_set]at hq
     split at hq
     ·rename_i Up
      subst Up
      (try rw[if_pos iv]at hq)
      injection hq with hq;subst hq
      exact⟨{Vb with key:=a.eval k,val:=a.eval y},_,_,by rw[Array.getElem?_modify];simp[q1],pk1,pk2,hr _ _ rk,hr _ _ ry⟩
     ·rename_i Up
      obtain⟨en,kv,vv,q1,q2,q3,q4,q5⟩:=hM q cs hq
      exact⟨en,kv,vv,by rw[Array.getElem?_modify];simp[Up,q1],q2,q3,hr _ _ q4,hr _ _ q5⟩
 ·cases hv
theorem Ra {t t':TypeId} {x k:Operand} {m:MK} {z:K} {x' k':O} {g':Rows} (S:iD P hs D ι g w) (E:di P w D ι env a) (ho:o.op=.call {callee:=.builtin .delete,args:= #[x,k],argTypes:= #[t,t']}) (hc:u9 P t=some (m,z)) (hx:cO P x=some x') (hk:cO P k=some k')
  (hv:bJ (.del m) [du env x',du env k'] g=some g'):Fy P hs a o w D ι id .undef g':=by
 obtain⟨kt,e,i,zv,ht,hi,yM,Xt,hK⟩:=tN hc
 simp only[bJ,Option.bind_eq_some_iff]at hv
 obtain⟨p,hp,fi,I8,hv⟩:=hv
 split at hv
 ·rename_i hw
  simp only[Option.some.injEq]at hv;subst hv
  obtain⟨B,hu,hg,hB,xG,es,clock,hb,e9,hlen,hM⟩:=Ct S (ek E hx) hp
  have rk:=ek E hk
  obtain⟨RH,res,hf,hF⟩:=yy (B:=B) hK rk e9 hM I8
  obtain⟨k1,k2,k3,k4⟩:=yZ I8
  obtain⟨B',eG,R,_⟩:=S.row p.1 p.2 hg
  rw[hB]at eG;injection eG with eG;subst eG
  have ji:(getObj B.b).run P w=.ok (.map es clock) w:=MapKept.run_getObj_map hb
  have go:∀ob,(Builtin.delete_ #[t,t'] o.type #[a.eval x,a.eval k]).run P w=.ok (.tuple #[]) {w with heap:=w.heap.setIfInBounds B.b ob}->(execOp a.eval o).run P w=.ok (.value undef) {w with heap:=w.heap.setIfInBounds B.b ob}:=fun ob h=>by
   simp only[execOp,ho,resolve,Sem.run_bind,Sem.run_pure,Result.andThen_ok,invoke,builtin,Array.map]
   simp[h,undef]
  rcases hF with⟨rfl,rfl⟩|⟨j,en,rfl,he,rfl⟩
  ·have pK:=S.J6 (ob:=.map es clock) (r':={p.2 with rows:=dK p.2.rows none}) hg hw hB fun hr lG=>⟨R.sz,R.flat,fun xk=>(by rw[xG]at xk;cases xk),fun m' Eb=>?_,fun c hc=>(by rw[xG]at hc;cases hc)⟩
   ·refine⟨undef,_,ι,.inl (go _ ?_),pK.2,pK.1,dy.undef,fun _ _=>rfl⟩
    simp[Builtin.delete_,hu,run_underlying ht,ji,RH,hf,MapKept.run_setObj_map _ hb]
   ·rw[xG]at Eb;simp only[Option.some.injEq,BK.map.injEq]at Eb;subst Eb
    exact⟨(R.map m xG).1,_,_,lG,e9,hlen,fun q cs hq=>by
     obtain⟨en,kv,vv,q1,q2,q3,q4,q5⟩:=hM q cs hq
     exact⟨en,kv,vv,q1,q2,q3,hr _ _ q4,hr _ _ q5⟩⟩
  ·simp only[Nat.zero_add]at hf ⊢
   have iv:j<es.size:=by have:=(List.getElem?_eq_some_iff.1 he).1;simpa using this
   have pK:=S.J6 (ob:=.map (es.eraseIdxIfInBounds j) clock) (r':={p.2 with rows:=dK p.2.rows (some j)}) hg hw hB fun hr lG=>⟨R.sz,fun cs eD=>R.flat cs (List.mem_of_mem_eraseIdx eD),fun xk=>(by rw[xG]at xk;cases xk),fun m' Eb=>?_,fun c hc=>(by rw[xG]at hc;cases hc)⟩
   ·refine⟨undef,_,ι,.inl (go _ ?_),pK.2,pK.1,dy.undef,fun _ _=>rfl⟩
    simp[Builtin.delete_,hu,run_underlying ht,ji,RH,hf,MapKept.run_setObj_map _ hb]
   ·rw[xG]at Eb;simp only[Option.some.injEq,BK.map.injEq]at Eb;subst Eb
    have he2:∀q,(es.eraseIdxIfInBounds j)[q]? =(es.toList.eraseIdx j)[q]? :=fun q=>by
     unfold Array.eraseIdxIfInBounds
     rw[dif_pos iv,<-Array.getElem?_toList,Array.toList_eraseIdx]
    refine⟨(R.map m xG).1,_,_,lG,by simp[dK,Array.eraseIdxIfInBounds,iv,List.length_eraseIdx,<-e9],⟨fun cs eD=>hlen.1 cs (List.mem_of_mem_eraseIdx eD),J0 hlen.2 iv⟩,fun q cs hq=>?_⟩
    simp only[dK,List.getElem?_eraseIdx]at hq
    split at hq
    ·rename_i eM
     obtain⟨en,kv,vv,q1,q2,q3,q4,q5⟩:=hM q cs hq
     exact⟨en,kv,vv,by rw[he2,List.getElem?_eraseIdx,if_pos eM];simpa using q1,q2,q3,hr _ _ q4,hr _ _ q5⟩
    ·rename_i eM
     obtain⟨en,kv,vv,q1,q2,q3,q4,q5⟩:=hM (q+1) cs hq
     exact⟨en,kv,vv,by rw[he2,List.getElem?_eraseIdx,if_neg eM];simpa using q1,q2,q3,hr _ _ q4,hr _ _ q5⟩
 ·cases hv
end
end Go.Proofs.YtiabgllilcfheaaGreat.V
