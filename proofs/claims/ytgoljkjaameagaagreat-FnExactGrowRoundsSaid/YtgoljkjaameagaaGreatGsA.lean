/- A small language in which the program's functions are read by value: its values, its operations, its code, and how the program's code is brought into it. -/
import Derived.WalkKit
import Derived.WalkSpells
import Derived.WalkLawsBesides
import Derived.Lib.Hide
import Derived.Great.BuildSlice
import Derived.Conc.LoneCalls
import Derived.MapKept
import Derived.WideKeyRuns
set_option linter.unusedVariables false
set_option linter.unusedSimpArgs false
set_option maxRecDepth 100000
set_option maxHeartbeats 16000000
namespace Go.Proofs.YtgoljkjaameagaaGreat.V
open Go.RowKit
structure Id where
  site:Nat
  bj:Nat
  deriving DecidableEq,Repr
inductive TS where
  |tI|tB|tS
  deriving Repr,DecidableEq
structure MK where
  ka:Bool
  ts:List TS
  deriving Repr,DecidableEq
inductive AV where
  |int (k:IntKind) (n:Int)
  |bool (b:Bool)
  |str (s:ByteArray)
  |bI|iA|jo
  |sl (rows:List (List AV))
  |own (id:Id) (off len:Nat)
  |ptr (id:Id) (i off:Nat)
  |dn (cs:List AV)
  |agg (cs:List AV)
  |gJ (vs:List AV)
  |fn (f:Nat) (dh:List AV)
  |map (id:Id) (m:MK)
  |jE
  |vU (f:Nat) (first:List AV)
  |sQ (id:Id)
  deriving Inhabited
def AV.undef:AV:=.gJ []
def AV.cell:AV->Bool
  | .agg _| .gJ _=>false
  |_=>true
def AV.cells:AV->List AV
  | .agg cs=>cs
  |v=>[v]
inductive K where
  |int (k:IntKind) (n:Int)
  |bool (b:Bool)
  |str (l:List UInt8)
  |bI|iA|jo|jE
  deriving Repr,DecidableEq
def K.val:K->Value
  | .int k n=>.int k n
  | .bool b=>.bool b
  | .str l=>.string ⟨l.toArray⟩
  | .bI=>.slice none 0 0
  | .iA=>.pointer none
  | .jo=>.nilFunc
  | .jE=>.map none
def K.av:K->AV
  | .int k n=>.int k n
  | .bool b=>.bool b
  | .str l=>.str ⟨l.toArray⟩
  | .bI=>.bI
  | .iA=>.iA
  | .jo=>.jo
  | .jE=>.jE
def Jo:Value->Option K
  | .int k n=>some (.int k n)
  | .bool b=>some (.bool b)
  | .string s=>some (.str s.data.toList)
  | .slice none 0 0=>some .bI
  | .pointer none=>some .iA
  | .nilFunc=>some .jo
  | .map none=>some .jE
  |_=>none
inductive O where
  |t (n:Nat)
  |k (c:K)
  |ka (cs:List K)
  |f (n:Nat)
  deriving Repr,DecidableEq
inductive MQ where
  |new (m:MK)
  |look (m:MK) (ok:Bool) (zero:K)
  |len (m:MK)
  deriving Repr,DecidableEq
inductive MW where
  |set (m:MK)
  |del (m:MK)
  deriving Repr,DecidableEq
inductive gV where
  |dr (x:O)
  |pick (c a b:O)
  |new (zero:List K)
  |box (x:O)
  |build (zero:List K) (parts:List (Nat×Nat×O))
  |lO (sz len:Nat) (parts:List O)
  |load (agg:Bool) (n:Nat) (a:O)
  |store (n:Nat) (a x:O)
  |zU (x:O)
  |bin (op:BinOp) (k:IntKind) (x y:O)
  |sh (left:Bool) (x y:O)
  |Ox (op:BinOp) (x y:O)
  |RQ (neg:Bool) (t:TS) (x y:O)
  |WZ (neg:Bool) (ts:List TS) (x y:O)
  |U5 (neg Ps:Bool) (x:O)
  |W4 (neg:Bool) (x:O)
  |not (x:O)
  |neg (x:O)
  |conv (k:IntKind) (x:O)
  |Hw (x:O)
  |slice (sz:Nat) (x:O) (lo hi:Option O)
  |Cg (x:O) (lo hi:Option O)
  |gp (off:Nat) (x:O)
  |field (agg:Bool) (off n:Nat) (x:O)
  |ek (sz:Nat) (x i:O)
  |Pm (len sz:Nat) (x i:O)
  |Pp (x i:O)
  |eG (agg:Bool) (len n:Nat) (x i:O)
  |extract (i:Nat) (x:O)
  |len (x:O)
  |PD (x:O)
  |append (sz:Nat) (x y:O)
  |copy (sz:Nat) (x y:O)
  |clear (zero:List K) (x:O)
  |PJ (f:Nat) (dh:List O)
  |PK (f:Nat) (first:List O)
  |kG (zero:List K) (len cap:O)
  |call (f:Nat) (args:List O)
  |vk (x:O) (args:List O)
  |mq (q:MQ) (xs:List O)
  |mw (q:MW) (xs:List O)
  |My (x:O)
  |Mq (x:O)
  |snd (x y:O)
  |Tl (x:O)
  |bad
  deriving Repr,DecidableEq
structure bx where
  dst:Option Nat
  op:gV
  guard:Option (Nat×Bool)
  site:Nat
  hid:List Nat
  deriving Repr,DecidableEq
def q (d:Nat) (op:gV) (s:Nat):bx:=⟨some d,op,none,s,[]⟩
inductive VC where
  |skip
  |eQ (draw:Bool) (ops:List bx)
  |seq (a b:VC)
  |cond (c:O) (x y:VC)
  |block (id:Nat) (c:VC)
  |loop (c:VC)
  |exit (id:Nat)
  |ret
  |one (o:bx) (c:VC)
  |both (a b:VC)
  |loc (t s:Nat) (y:O) (c:VC)
  |RI (ops:List bx)
  deriving Repr,DecidableEq
inductive oR where
  |tmp (t:Nat)
  |cell (agg:Bool) (n:Nat) (t:Nat)
  deriving Repr,DecidableEq
structure A4 where
  ntmps:Nat
  Ay:Nat
  body:VC
  res:List oR
  deriving Repr,DecidableEq
def gz (P:Program) (f:Nat):Bool:=
  match P.funcs[f]? with
  |some fn=>fn.body.isSome&& !(fn.name== "runtime.NumGoroutine")
  |none=>false
def cO (P:Program):Operand->Option O
  | .tmp t=>some (.t t)
  | .const (.agg cs)=>(cs.toList.mapM Jo).map O.ka
  | .const v=>(Jo v).map O.k
  | .global _=>none
  | .func f=>if gz P f then some (.f f)else none
def j9 (P:Program) (t:TypeId):Option (List K):=
  match P.info? t with
  |some i=>match i.zero with
    |some v=>if v.cells.size=i.size then v.cells.toList.mapM Jo else none
    |none=>none
  |none=>none
def eC (P:Program) (t:TypeId):Option Nat:=(P.info? t).map (·.size)
def oY (P:Program) (t:TypeId):Option Bool:=
  match P.underlying t with
  |some (.struct _)|some (.array _ _)=>some true
  |some _=>some false
  |none=>none
inductive Yb where
  |sc (t:TS)|ag (ts:List TS)
  deriving Repr,DecidableEq
def fJ (P:Program) (t:TypeId):Option TS:=
  match P.underlying t with
  |some .bool=>some .tB
  |some (.int _)=>some .tI
  |some .string=>some .tS
  |_=>none
def FP (P:Program) (inner:List Field->Option (List TS)):Nat->List Field->Option (List TS)
  |_,[]=>some []
  |off,f::r=>
    if f.offset=off/\f.name≠ "_" then
      match fJ P f.type with
      |some t=>if oY P f.type=some false then(FP P inner (off+1) r).map (t::·)else none
      |none=>match P.underlying f.type with
        |some (.struct fs)=>if !P.stoodInHeld f.type then match inner fs.toList with
          |some ts=>if eC P f.type=some ts.length/\ts≠[]then(FP P inner (off+ts.length) r).map (ts++·)else none
          |none=>none else none
        |_=>none
    else none
def eU (P:Program):Nat->Nat->List Field->Option (List TS)
  |0,_,[]=>some []
  |0,_,_::_=>none
  |d+1,off,fs=>FP P (eU P d 0) off fs
def Yq (P:Program) (t:TypeId):Option Yb:=
  match fJ P t with
  |some s=>some (.sc s)
  |none=>match P.underlying t with
    |some (.struct fs)=>if !P.stoodInHeld t&& !P.eqGuardType P.depth t then(eU P 4 0 fs.toList).map Yb.ag else none
    |_=>none
def um (P:Program) (fs:Array Field):List (Nat×O)->Option (List (Nat×Nat×O))
  |[]=>some []
  |(i,x)::r=>match fs[i]? with
    |some f=>match eC P f.type with
      |some n=>(um P fs r).map ((f.offset,n,x)::·)
      |none=>none
    |none=>none
def ur (P:Program) (ps:Array (Nat×Operand)):Option (List (Nat×O)):=ps.toList.mapM fun(i,x)=>(cO P x).map (i,·)
def sO (P:Program):Option Operand->Option (Option O)
  |none=>some none
  |some x=>(cO P x).map some
def uo (P:Program) (neg:Bool) (t:TypeId) (x y:Operand):Option gV:=
  match y with
  | .const (.slice none 0 0)=>match P.underlying t with
    |some (.slice _)=>(cO P x).map (gV.U5 neg false)
    |_=>none
  | .const .nilFunc=>match P.underlying t with
    |some (.func ..)=>(cO P x).map (gV.U5 neg true)
    |_=>none
  | .const (.pointer none)=>match P.underlying t with
    |some (.pointer _)=>(cO P x).map (gV.W4 neg)
    |_=>none
  |_=>match Yq P t with
    |some (.sc s)=>do pure (.RQ neg s (<-cO P x) (<-cO P y))
    |some (.ag ts)=>do pure (.WZ neg ts (<-cO P x) (<-cO P y))
    |_=>none
def xr (P:Program) (op:BinOp) (t:TypeId) (x y:Operand):Option gV:=
  match op with
  | .eql=>uo P false t x y
  | .neq=>uo P true t x y
  | .shl=>do pure (.sh true (<-cO P x) (<-cO P y))
  | .shr=>do pure (.sh false (<-cO P x) (<-cO P y))
  |op=>match P.underlying t with
    |some (.int k)=>do pure (.bin op k (<-cO P x) (<-cO P y))
    |some .string=>do pure (.Ox op (<-cO P x) (<-cO P y))
    |_=>none
def uq (P:Program) (t:TypeId):Option (MK×K):=
  match P.underlying t with
  |some (.map k e)=>match oY P e,(P.info? e).bind (·.zero),fJ P k,P.underlying k with
    |some false,some zv,some s,_=>(Jo zv).map fun z=>(⟨false,[s]⟩,z)
    |some false,some zv,none,some (.struct fs)=>match eU P 4 0 fs.toList,Jo zv with
      |some ts,some z=>if !P.stoodInHeld k/\fs.toList.all (fun f=>(fJ P f.type).isSome)then some (⟨true,ts⟩,z)else none
      |_,_=>none
    |_,_,_,_=>none
  |_=>none
def oI (P:Program) (c:Call):Option gV:=
  match c.callee with
  | .builtin .len=>match c.args.toList,c.argTypes.toList with
    |[x],[t]=>match P.underlying t with
      |some (.slice _)=>(cO P x).map gV.len
      |some .string=>(cO P x).map gV.PD
      |some (.map _ _)=>match uq P t,cO P x with
        |some (m,_),some x=>some (.mq (.len m) [x])
        |_,_=>none
      |some (.chan _ _)=>(cO P x).map gV.Mq
      |_=>none
    |_,_=>none
  | .builtin .append=>match c.args.toList,c.argTypes.toList with
    |[x,y],[t,u]=>match P.underlying t with
      |some (.slice e)=>match eC P e,j9 P e,P.info? e with
        |some (sz+1),some _,some i=>if i.bytes<=32768/\t=u then do pure (.append (sz+1) (<-cO P x) (<-cO P y))else none
        |_,_,_=>none
      |_=>none
    |_,_=>none
  | .builtin .clear=>match c.args.toList,c.argTypes.toList with
    |[x],[t]=>match P.underlying t with
      |some (.slice e)=>match eC P e,j9 P e with
        |some (_+1),some z=>(cO P x).map (gV.clear z)
        |_,_=>none
      |_=>none
    |_,_=>none
  | .value (.func f)=>if gz P f then(c.args.toList.mapM (cO P)).map (gV.call f)else none
  | .value (.tmp t)=>(c.args.toList.mapM (cO P)).map (gV.vk (.t t))
  | .builtin .delete=>match c.args.toList,c.argTypes.toList with
    |[x,k],[t,_]=>match uq P t,cO P x,cO P k with
      |some (m,_),some x,some k=>some (.mw (.del m) [x,k])
      |_,_,_=>none
    |_,_=>none
  | .builtin .copy=>match c.args.toList,c.argTypes.toList with
    |[x,y],[t,_]=>match P.underlying t with
      |some (.slice e)=>match eC P e with
        |some (sz+1)=>do pure (.copy (sz+1) (<-cO P x) (<-cO P y))
        |_=>none
      |_=>none
    |_,_=>none
  |_=>none
def sq (P:Program) (o:Op):Option gV:=
  match o with
  | .move x| .assign x=>(cO P x).map gV.dr
  | .pick c a b=>do pure (.pick (<-cO P c) (<-cO P a) (<-cO P b))
  | .alloc e=>(j9 P e).map gV.new
  | .box _ x=>(cO P x).map gV.box
  | .load t a=>do pure (.load (<-oY P t) (<-eC P t) (<-cO P a))
  | .store t a x=>do pure (.store (<-eC P t) (<-cO P a) (<-cO P x))
  | .nilCheck x=>(cO P x).map gV.zU
  | .binOp op t x y _=>xr P op t x y
  | .unOp .not _ x=>(cO P x).map gV.not
  | .unOp .neg _ x=>(cO P x).map gV.neg
  | .convert s d x=>match P.underlying s,P.underlying d with
    |some (.int _),some (.int k)=>(cO P x).map (gV.conv k)
    |some .string,some .string=>(cO P x).map gV.Hw
    |_,_=>none
  | .slice t x lo hi none=>match P.underlying t with
    |some (.slice e)=>do
      pure (.slice (<-eC P e) (<-cO P x) (<-sO P lo) (<-sO P hi))
    |some .string=>do pure (.Cg (<-cO P x) (<-sO P lo) (<-sO P hi))
    |_=>none
  | .fieldAddr s x i=>match P.underlying s with
    |some (.struct fs)=>match fs[i]? with
      |some f=>match eC P f.type with
        |some (_+1)=>(cO P x).map (gV.gp f.offset)
        |_=>none
      |none=>none
    |_=>none
  | .field s x i=>match P.underlying s with
    |some (.struct fs)=>match fs[i]? with
      |some f=>do pure (.field (<-oY P f.type) f.offset (<-eC P f.type) (<-cO P x))
      |none=>none
    |_=>none
  | .indexAddr t x i=>match P.underlying t with
    |some (.slice e)=>match eC P e with
      |some (m+1)=>do pure (.ek (m+1) (<-cO P x) (<-cO P i))
      |_=>none
    |some (.array len e)=>match eC P e with
      |some (m+1)=>do pure (.Pm len (m+1) (<-cO P x) (<-cO P i))
      |_=>none
    |_=>none
  | .index t x i=>match P.underlying t with
    |some .string=>do pure (.Pp (<-cO P x) (<-cO P i))
    |some (.array len e)=>do pure (.eG (<-oY P e) len (<-eC P e) (<-cO P x) (<-cO P i))
    |_=>none
  | .extract x i=>(cO P x).map (gV.extract i)
  | .build t ps=>match P.underlying t with
    |some (.struct fs)=>
      match j9 P t,ur P ps with
      |some z,some l=>
        if fs.all (fun f=>(P.info? f.type).isSome)then(um P fs l).map (gV.build z)else none
      |_,_=>none
    |some (.array _ e)=>
      match j9 P t,ur P ps,eC P e with
      |some z,some l,some n=>some (.build z (l.map fun(i,x)=>(i*n,n,x)))
      |_,_,_=>none
    |_=>none
  | .buildSlice t len ps=>match P.underlying t with
    |some (.slice e)=>match eC P e,j9 P e,ur P ps with
      |some (sz+1),some _,some l=>
        if len*(sz+1)<=4096/\l.map (·.1)=List.range len then some (.lO (sz+1) len (l.map (·.2)))else none
      |_,_,_=>none
    |_=>none
  | .makeFunc (.func f) first dh=>
    if first= #[]/\gz P f then(dh.toList.mapM (cO P)).map (gV.PJ f)else if dh= #[]/\gz P f then(first.toList.mapM (cO P)).map (gV.PK f)else none
  | .makeSlice t l c=>match P.underlying t with
    |some (.slice e)=>match eC P e,j9 P e,P.info? e with
      |some (_+1),some z,some i=>if i.bytes<=32768 then do pure (.kG z (<-cO P l) (<-cO P c))else none
      |_,_,_=>none
    |_=>none
  | .call c=>oI P c
  | .makeChan t n=>match P.underlying t with
    |some (.chan _ e)=>match P.info? e with
      |some i=>if i.bytes<=32768 then(cO P n).map gV.My else none
      |none=>none
    |_=>none
  | .send x y=>do pure (.snd (<-cO P x) (<-cO P y))
  | .recv t x false=>match P.underlying t with
    |some (.chan _ e)=>match (P.info? e).bind (·.zero)with
      |some _=>(cO P x).map gV.Tl
      |none=>none
    |_=>none
  | .makeMap t none=>match uq P t with
    |some (m,_)=>some (.mq (.new m) [])
    |none=>none
  | .lookup t x k ok=>match uq P t,cO P x,cO P k with
    |some (m,z),some x,some k=>some (.mq (.look m ok z) [x,k])
    |_,_,_=>none
  | .mapUpdate t x k v| .insert t x k v=>match uq P t,cO P x,cO P k,cO P v with
    |some (m,_),some x,some k,some v=>some (.mw (.set m) [x,k,v])
    |_,_,_,_=>none
  | .makeInterface _ _=>some .bad
  | .panic _=>some .bad
  |_=>none
inductive X9 where
  |pure|look|make|write
  deriving DecidableEq,Repr
def gV.cls:gV->X9
  | .new _| .box _| .lO .. | .kG .. | .mq (.new _) _| .My _=>.make
  | .load .. | .ek .. | .slice .. | .call .. | .vk .. | .mq .. | .Mq _=>.look
  | .store .. | .append .. | .copy .. | .clear .. | .mw .. | .snd .. | .Tl _=>.write
  |_=>.pure
def clash:X9->X9->Bool
  | .pure,_|_,.pure=>false
  | .write,_|_,.write=>true
  |_,_=>false
def j3 (ops:Array Oper):Array Nat:=Region.before ops
def r6:gV->Bool:=fun o=>o.cls==.make||o.cls==.write
def gV.mQ:gV->Bool
  | .call .. | .vk .. =>true
  |_=>false
def FB (ops:Array Oper) (o:Oper):Option (Option (Nat×Bool)):=
  match o.guard with
  |none=>some none
  |some (i,b)=>match (ops[i]?).bind (·.dst)with
    |some t=>some (some (t,b))
    |none=>none
def lP (P:Program) (ops:Array Oper) (nt site0:Nat) (draw mk:Bool) (bs:Array Nat) (hidden:List (Nat×Bool)) (j:Nat) (o:Oper):Option bx:=do
  let v <-sq P o.op
  let g <-FB ops o
  if (o.dst.all fun d=>decide (d<nt))then
    pure {dst:=o.dst,op:=v,guard:=g,site:=site0+j,hid:=if draw then(hidden.filter fun(i,m)=>m&& !(bs.getD j 0).testBit i&&(i !=j||mk&&v.mQ)).map fun(i,_)=>site0+i else[]}
  else none
def allM {α:Type} (f:Nat->Oper->Option α):List Oper->Nat->Option (List α)
  |[],_=>some []
  |o::r,j=>do pure ((<-f j o)::(<-allM f r (j+1)))
def iC:O->List Nat
  | .t n=>[n]
  |_=>[]
def yw:Option O->List Nat
  |some x=>iC x
  |none=>[]
def gV.ig:gV->List Nat
  | .clear _ x| .dr x| .box x| .load _ _ x| .zU x| .U5 _ _ x| .W4 _ x| .not x| .neg x| .conv _ x| .Hw x| .gp _ x| .field _ _ _ x| .extract _ x| .len x| .PD x| .My x| .Mq x| .Tl x=>iC x
  | .pick c a b=>iC c++iC a++iC b
  | .new _| .bad=>[]
  | .build _ ps=>ps.flatMap fun(_,_,x)=>iC x
  | .lO _ _ ps=>ps.flatMap iC
  | .store _ a x| .snd a x=>iC a++iC x
  | .bin _ _ x y| .sh _ x y| .Ox _ x y| .RQ _ _ x y| .WZ _ _ x y| .ek _ x y| .Pm _ _ x y| .Pp x y| .eG _ _ _ x y| .append _ x y| .copy _ x y| .kG _ x y=>iC x++iC y
  | .slice _ x lo hi| .Cg x lo hi=>iC x++yw lo++yw hi
  | .PJ _ l| .PK _ l| .call _ l| .mq _ l| .mw _ l=>l.flatMap iC
  | .vk x l=>iC x++l.flatMap iC
def bx.ig (v:bx):List Nat:=v.op.ig++(match v.guard with|some (t,_)=>[t]|none=>[])
def uZ (x y:bx):Bool:=
  (match x.dst with
   |some d=> !y.ig.contains d&&y.dst !=some d
   |none=>true)&&
  (match y.dst with
   |some d=> !x.ig.contains d
   |none=>true)
def bx.makes (v:bx):Bool:=r6 v.op||v.op.mQ&&v.hid.contains v.site
def HD (x y:bx):Bool:=
  uZ x y&& !clash x.op.cls y.op.cls&&(!x.makes||y.hid.contains x.site)&&(!y.makes||x.hid.contains y.site)&&x.site !=y.site
def Hx (ops:Array Oper):Bool:=ops.toList.zipIdx.all fun(o,j)=>o.after.all fun e=> !Region.binds .any e||decide (e.on<j)
def pI (ops:Array Oper) (vl:List bx) (bs:Array Nat):Bool:=
  Hx ops&&vl.zipIdx.all fun(y,j)=>vl.zipIdx.all fun(x,i)=> !(decide (i<j))||(bs.getD j 0).testBit i||HD x y
def sP (P:Program) (nt site0:Nat) (ops:Array Oper) (draw mk:Bool):Option (List bx):=
  let bs:=if draw then j3 ops else #[]
  let hidden:=if draw then ops.toList.zipIdx.map fun(o,i)=>(i,((sq P o.op).map fun v=>r6 v||mk&&v.mQ).getD false)else[]
  match allM (lP P ops nt site0 draw mk bs hidden) ops.toList 0 with
  |some vl=>if !draw||pI ops vl bs then some vl else none
  |none=>none
def lW (v:bx):Bool:= !v.op.mQ&&v.op.cls !=.write
def z7 (x y:bx):Bool:=uZ x y&&x.op.cls==.pure||HD x y&&lW x&&lW y
def rR (ops:Array Oper) (vl:List bx) (bs:Array Nat) (listed:Array Bool) (i:Nat):Bool:=
  match vl[i]? with
  |some x=>(List.range ops.size).all fun j=>listed.getD j false||j==i||(bs.getD j 0).testBit i||(match vl[j]? with|some y=>z7 x y|none=>false)
  |none=>false
def Q5 (vl:List bx) (x:bx):Option (Nat×Nat×O):=
  match x.op,x.guard with
  | .append _ (.t t) y,none=>match vl.find? fun v=>v.dst==some t&&v.op.cls==.make with
    |some v=>some (t,v.site,y)
    |none=>none
  |_,_=>none
def HC (s:Nat) (x y:bx):Bool:=uZ x y&&lW y&&y.hid.contains s&&y.hid.contains x.site&&y.site !=s&&y.site !=x.site
def pK (ops:Array Oper) (vl:List bx) (bs:Array Nat) (listed:Array Bool) (i s:Nat):Bool:=
  match vl[i]? with
  |some x=>(List.range ops.size).all fun j=>listed.getD j false||j==i||(bs.getD j 0).testBit i||(match vl[j]? with|some y=>HC s x y|none=>false)
  |none=>false
def S9 (ops:Array Oper) (vl:List bx) (bs:Array Nat) (listed:Array Bool) (i:Nat):Option (Nat×Nat×Nat×O×bx):=
  match vl[i]? with
  |some x=>match Q5 vl x with
    |some (t,s,y)=>if pK ops vl bs listed i s then some (i,t,s,y,x)else none
    |none=>none
  |none=>none
def C6:List VC->Option VC
  |[]=>none
  |[c]=>some c
  |c::r=>(C6 r).map (VC.both c)
def yZ (ops:Array Oper) (vl:List bx) (bs:Array Nat):Nat->Array Bool->Option VC
  |0,listed=>
    match Region.ready .any ops listed with
    |[]=>some (.eQ false [])
    |_::_=>none
  |n+1,listed=>
    match Region.ready .any ops listed with
    |[]=>some (.eQ false [])
    |r::rs=>let rdy:=r::rs
      match rdy.find? (rR ops vl bs listed)with
      |some i=>match vl[i]? with
        |some vo=>(yZ ops vl bs n (listed.setIfInBounds i true)).map (VC.one vo)
        |none=>none
      |none=>match rdy.findSome? (S9 ops vl bs listed)with
        |some (i,t,s,y,vo)=>(yZ ops vl bs n (listed.setIfInBounds i true)).map fun c=>VC.loc t s y (.one vo c)
        |none=>match rdy.mapM fun i=>(vl[i]?).bind fun vo=>(yZ ops vl bs n (listed.setIfInBounds i true)).map (VC.one vo)with
          |some l=>C6 l
          |none=>none
def Q3:Op->Bool
  | .send .. | .recv .. =>true
  |_=>false
def UU (P:Program) (nt site0:Nat) (ops:Array Oper) (draw:Bool) (mode:Nat):Option VC:=
  if draw&&mode==2 then
    match allM (lP P ops nt site0 true false (j3 ops) (ops.toList.zipIdx.map fun(o,i)=>(i,((sq P o.op).map r6).getD false))) ops.toList 0 with
    |some vl=>yZ ops vl (j3 ops) ops.size (Array.replicate ops.size false)
    |none=>none
  else if !draw&&ops.any (fun o=>Q3 o.op)then(sP P nt site0 ops false false).map VC.RI
  else(sP P nt site0 ops draw (mode==1)).map (VC.eQ draw)
def yl (md:List (Nat×Nat)) (id:Nat):Nat:=
  match md with
  |[]=>0
  |(i,m)::r=>if i=id then m else yl r id
def jK (P:Program) (md:List (Nat×Nat)) (nt fid:Nat):Code->Option VC
  | .skip=>some .skip
  | .region id ops draw=>UU P nt ((fid*1000+id)*1000) ops draw (yl md id)
  | .seq a b=>do pure (.seq (<-jK P md nt fid a) (<-jK P md nt fid b))
  | .cond c x y=>do pure (.cond (<-cO P c) (<-jK P md nt fid x) (<-jK P md nt fid y))
  | .block id c=>(jK P md nt fid c).map (VC.block id)
  | .loop c=>(jK P md nt fid c).map VC.loop
  | .exit id=>some (.exit id)
  | .ret=>some .ret
  |_=>none
def FC (P:Program) (r:ResultVar):Option oR:=
  match r with
  | .tmp t=>some (.tmp t)
  | .cell a t=>do pure (.cell (<-oY P t) (<-eC P t) a)
def xt (P:Program) (f:Nat) (md:List (Nat×Nat)):Option A4:=
  match P.funcs[f]? with
  |some fn=>match fn.body with
    |some c=>do
      let b <-jK P md fn.ntmps f c
      let r <-fn.results.toList.mapM (FC P)
      if fn.params.size+fn.nfree<=fn.ntmps then pure {ntmps:=fn.ntmps,Ay:=fn.params.size+fn.nfree,body:=b,res:=r}else none
    |none=>none
  |none=>none
def nK (P:Program) (f:Nat):Option A4:=xt P f []
theorem ah {P:Prop} (h:P:=by omega):P:=h
theorem aT {P:Prop} (h:P:=by(try dsimp only);omega):P:=h
structure Row where
 w:Bool
 sz:Nat
 rows:List (List AV)
abbrev Rows:=Id->Option Row
structure aw where
 get:Rows
 next:Nat
abbrev Env:=Nat->AV
def upd (env:Env):Option Nat->AV->Env
 |some d,v=>fun t=>if t=d then v else env t
 |none,_=>env
inductive Ex where
 |normal
 |exit (id:Nat)
 |ret
 deriving DecidableEq
def dc (env:Env):O->AV
 | .t n=>env n
 | .k c=>c.av
 | .ka cs=>.agg (cs.map K.av)
 | .f n=>.fn n []
def bE (g:Rows) (id:Id) (r:Row):Rows:=fun i=>if i=id then some r else g i
def cj (g:Rows) (id:Id):Rows:=fun i=>if i=id then none else g i
def fS:List Nat->Nat->Rows->Rows
 |[],_,g=>g
 |h::t,n,g=>fun id=>if (h::t).contains id.site=true/\id.bj=n then none else g id
def ro (g:Rows):Rows:=fun id=>(g id).map fun r=>{r with w:=false}
def part (agg:Bool) (n:Nat) (cs:List AV):Option AV:=
 if agg then(if n<=cs.length then some (.agg (cs.take n))else none)else cs.head?
def rowAt (g:Rows) (id:Id) (i:Nat):Option (List AV):=(g id).bind (·.rows[i]?)
def ld (g:Rows) (agg:Bool) (n:Nat):AV->Option AV
 | .ptr id i off=>(rowAt g id i).bind fun cs=>part agg n (cs.drop off)
 | .dn cs=>part agg n cs
 |_=>none
def dy:BinOp->IntKind->Int->Int->Option AV
 | .add,k,a,b=>some (.int k (k.wrap (a+b)))
 | .sub,k,a,b=>some (.int k (k.wrap (a-b)))
 | .mul,k,a,b=>some (.int k (k.wrap (a*b)))
 | .quo,k,a,b=>if b=0 then none else some (.int k (k.wrap (a.tdiv b)))
 | .rem,k,a,b=>if b=0 then none else some (.int k (a.tmod b))
 | .lss,_,a,b=>some (.bool (decide (a<b)))
 | .leq,_,a,b=>some (.bool (decide (a<=b)))
 | .gtr,_,a,b=>some (.bool (decide (b<a)))
 | .geq,_,a,b=>some (.bool (decide (b<=a)))
 | .and,k,a,b=>some (.int k (k.wrap (BitVec.ofInt k.bits a&&& BitVec.ofInt k.bits b).toNat))
 | .or,k,a,b=>some (.int k (k.wrap (BitVec.ofInt k.bits a|||BitVec.ofInt k.bits b).toNat))
 | .xor,k,a,b=>some (.int k (k.wrap (BitVec.ofInt k.bits a ^^^ BitVec.ofInt k.bits b).toNat))
 |_,_,_,_=>none
def dS (op:BinOp):AV->AV->Option AV
 | .int k a,.int k' b=>if k=k' then dy op k a b else none
 |_,_=>none
def gU (left:Bool):AV->AV->Option AV
 | .int k a,.int _ b=>if b<0 then none else some (.int k (if left then k.wrap (a*2 ^ min b.toNat k.bits)else a.fdiv (2 ^ min b.toNat k.bits)))
 |_,_=>none
def ee:BinOp->ByteArray->ByteArray->Option AV
 | .add,a,b=>if a.size+b.size<=9223372036854775807 then some (.str (a++b))else none
 | .lss,a,b=>some (.bool (Op.bytesLess a.toList b.toList))
 | .leq,a,b=>some (.bool (Op.bytesLess a.toList b.toList||(a.toList==b.toList)))
 | .gtr,a,b=>some (.bool !(Op.bytesLess a.toList b.toList||(a.toList==b.toList)))
 | .geq,a,b=>some (.bool !(Op.bytesLess a.toList b.toList))
 |_,_,_=>none
def cY (op:BinOp):AV->AV->Option AV
 | .str a,.str b=>ee op a b
 |_,_=>none
def fQ:TS->AV->AV->Option Bool
 | .tI,.int k a,.int k' b=>if k=k' then some (decide (a=b))else none
 | .tB,.bool a,.bool b=>some (a==b)
 | .tS,.str a,.str b=>some (decide (a=b))
 |_,_,_=>none
def e6:List TS->List AV->List AV->Option Bool
 |[],[],[]=>some true
 |t::ts,a::r,b::s=>match fQ t a b,e6 ts r s with
  |some x,some y=>some (x&&y)
  |_,_=>none
 |_,_,_=>none
def dp (neg b:Bool):Bool:=if neg then !b else b
def cW:AV->Option Bool
 | .bI=>some true
 | .own _ _ _=>some false
 | .sl (_::_)=>some false
 |_=>none
def cV:AV->Option Bool
 | .jo=>some true
 | .fn _ _=>some false
 |_=>none
def NG:AV->Option Bool
 | .iA=>some true
 | .ptr .. | .dn _=>some false
 |_=>none
def dX (Ps:Bool) (x:AV):Option Bool:=if Ps then cV x else cW x
def dI (len:Nat):Option AV->Option Nat
 |none=>some len
 |some (.int _ n)=>if 0<=n/\n<=len then some n.toNat else none
 |_=>none
def dJ (h:Nat):Option AV->Option Nat
 |none=>some 0
 |some (.int _ n)=>if 0<=n/\n<=h then some n.toNat else none
 |_=>none
def bP (g:Rows) (sz:Nat) (x:AV) (lo hi:Option AV):Option AV:=
 match x with
 | .bI=>(dI 0 hi).bind fun h=>(dJ h lo).map fun _=>.bI
 | .sl rows=>(dI rows.length hi).bind fun h=>(dJ h lo).bind fun l=>if ∀cs∈rows,cs.length=sz then some (.sl ((rows.drop l).take (h-l)))else none
 | .own id off len=>(g id).bind fun r=>(dI len hi).bind fun h=>(dJ h lo).bind fun l=>if r.sz=sz then some (.own id (off+l) (h-l))else none
 |_=>none
def bc (x:AV) (lo hi:Option AV):Option AV:=
 match x with
 | .str s=>(dI s.size hi).bind fun h=>(dJ h lo).map fun l=>.str (s.extract l h)
 |_=>none
def Hf (off:Nat):AV->Option AV
 | .ptr id i o=>some (.ptr id i (o+off))
 | .dn cs=>some (.dn (cs.drop off))
 |_=>none
def bL (g:Rows) (sz:Nat):AV->AV->Option AV
 | .sl rows,.int _ n=>if 0<=n then(rows[n.toNat]?).bind fun cs=>if cs.length=sz then some (.dn cs)else none else none
 | .own id off len,.int _ n=>if 0<=n/\n<len then(g id).bind fun r=>if r.sz=sz then some (.ptr id (off+n.toNat) 0)else none else none
 |_,_=>none
def cL (len sz:Nat):AV->AV->Option AV
 | .ptr id r off,.int _ n=>if 0<=n/\n<len then some (.ptr id r (off+n.toNat*sz))else none
 | .dn cs,.int _ n=>if 0<=n/\n<len then some (.dn (cs.drop (n.toNat*sz)))else none
 |_,_=>none
def cP:AV->AV->Option AV
 | .str s,.int _ n=>if 0<=n then(s[n.toNat]?).map fun b=>.int .u8 b.toNat else none
 |_,_=>none
def cN (agg:Bool) (len n:Nat):AV->AV->Option AV
 | .agg cs,.int _ i=>if 0<=i/\i<len then part agg n (cs.drop (i.toNat*n))else none
 |_,_=>none
def dV:AV->Option Nat
 | .bI=>some 0
 | .sl rows=>some rows.length
 | .own _ _ n=>some n
 |_=>none
def dY:AV->Option AV
 | .bool b=>some (.bool !b)
 |_=>none
def dW:AV->Option AV
 | .int k n=>some (.int k (k.wrap (0-n)))
 |_=>none
def cK (k:IntKind):AV->Option AV
 | .int _ n=>some (.int k (k.wrap n))
 |_=>none
def bU:AV->Option AV
 | .str s=>some (.str s)
 |_=>none
def cX:AV->AV->AV->Option AV
 | .bool c,a,b=>some (if c then a else b)
 |_,_,_=>none
def dU:AV->Option AV
 | .ptr id i o=>some (.ptr id i o)
 | .dn cs=>some (.dn cs)
 |_=>none
def bK (agg:Bool) (off n:Nat):AV->Option AV
 | .agg cs=>if off+n<=cs.length then part agg n (cs.drop off)else none
 |_=>none
def aO (i:Nat):AV->Option AV
 | .gJ vs=>vs[i]?
 |_=>none
def cR:AV->Option AV
 | .str s=>some (.int .i64 s.size)
 |_=>none
def rowOf (sz:Nat) (v:AV):Option (List AV):=if v.cells.length=sz/\v.cells.all AV.cell then some v.cells else none
def cI (v:AV):Option (List AV):=if v.cells.all AV.cell then some v.cells else none
def rowsOf (sz:Nat):List AV->Option (List (List AV))
 |[]=>some []
 |v::r=>(rowOf sz v).bind fun c=>(rowsOf sz r).map fun cs=>c::cs
def cC:List AV->List (Nat×Nat×AV)->Option (List AV)
 |cs,[]=>some cs
 |cs,(off,n,v)::r=>if v.cells.length=n/\off+n<=cs.length/\v.cells.all AV.cell then cC (cs.take off++v.cells++cs.drop (off+n)) r else none
def dz:Nat:=16777216
def gT (zero:List K):AV->AV->Option (Nat×Row)
 | .int _ l,.int _ c=>if 0<=l/\l<=c/\c<=dz then some (l.toNat,⟨true,zero.length,List.replicate l.toNat (zero.map K.av)⟩)else none
 |_,_=>none
def tp:Nat:=1000000000
def MK.ks (m:MK):Nat:=m.ts.length
def MK.lq (m:MK):Nat:=tp+m.ks
def AV.isAgg:AV->Bool
 | .agg _=>true
 |_=>false
def gH (m:MK) (key:List AV):List (List AV)->Nat->Option (Option Nat)
 |[],_=>some none
 |r::l,i=>match e6 m.ts key (r.take m.ks)with
  |some true=>some (some i)
  |some false=>gH m key l (i+1)
  |none=>none
def dM (g:Rows) (m:MK):AV->Option (Id×Row)
 | .map id m'=>if m'=m then(g id).map fun r=>(id,r)else none
 |_=>none
def gD (m:MK) (k:AV) (rows:List (List AV)):Option (Option Nat):=if k.isAgg=m.ka/\k.cells.length=m.ks/\k.cells.all AV.cell then gH m k.cells rows 0 else none
def dQ (m:MK) (z:K) (rows:List (List AV)):Option Nat->Option AV
 |some i=>(rows[i]?).bind fun cs=>cs[m.ks]?
 |none=>some z.av
def bD (q:MQ) (vs:List AV) (g:Rows) (id:Id):Option (AV×Option Row):=
 match q,vs with
 | .new m,[]=>some (.map id m,some ⟨true,m.lq,[]⟩)
 | .look m ok z,[x,k]=>(dM g m x).bind fun p=>(gD m k p.2.rows).bind fun fi=>(dQ m z p.2.rows fi).map fun v=>(if ok then .gJ [v,.bool fi.isSome]else v,none)
 | .len m,[x]=>(dM g m x).map fun p=>(.int .i64 p.2.rows.length,none)
 |_,_=>none
def sS:Nat:=2000000000
def cU:AV->Option Nat
 | .int _ n=>if 0<=n/\n<=1048576 then some n.toNat else none
 |_=>none
def cQ (g:Rows):AV->Option AV
 | .sQ id=>(g id).map fun r=>.int .i64 r.rows.length
 |_=>none
def ea (g:Rows):AV->AV->Option Rows
 | .sQ id,v=>(g id).bind fun r=>if r.w/\sS+r.rows.length<r.sz/\v.cell then some (bE g id {r with rows:=r.rows++[[v]]})else none
 |_,_=>none
def dZ (g:Rows):AV->Option (AV×Rows)
 | .sQ id=>(g id).bind fun r=>match r.rows with
  |[v]::rest=>if r.w then some (v,bE g id {r with rows:=rest})else none
  |_=>none
 |_=>none
def dE (rows:List (List AV)) (e:List AV):Option Nat->List (List AV)
 |some i=>rows.set i e
 |none=>rows++[e]
def dG (rows:List (List AV)):Option Nat->List (List AV)
 |some i=>rows.eraseIdx i
 |none=>rows
def bG (q:MW) (vs:List AV) (g:Rows):Option Rows:=
 match q,vs with
 | .set m,[x,k,v]=>(dM g m x).bind fun p=>(gD m k p.2.rows).bind fun fi=>if p.2.w/\v.cell/\v.isAgg=false then some (bE g p.1 {p.2 with rows:=dE p.2.rows (k.cells++[v]) fi})else none
 | .del m,[x,k]=>(dM g m x).bind fun p=>(gD m k p.2.rows).bind fun fi=>if p.2.w then some (bE g p.1 {p.2 with rows:=dG p.2.rows fi})else none
 |_,_=>none
def eM (o:gV) (ρ:O->AV) (g:Rows) (id:Id):Option (AV×Option Row):=
 match o with
 | .dr x=>some (ρ x,none)
 | .pick c a b=>(cX (ρ c) (ρ a) (ρ b)).map (·,none)
 | .new zero=>some (.ptr id 0 0,some ⟨true,zero.length,[zero.map K.av]⟩)
 | .box x=>(cI (ρ x)).map fun cs=>(.ptr id 0 0,some ⟨true,cs.length,[cs]⟩)
 | .build zero parts=>(cC (zero.map K.av) (parts.map fun(o,n,x)=>(o,n,ρ x))).map fun cs=>(.agg cs,none)
 | .lO sz len parts=>(rowsOf sz (parts.map ρ)).map fun rs=>(.own id 0 len,some ⟨true,sz,rs⟩)
 | .load agg n a=>(ld g agg n (ρ a)).map (·,none)
 | .zU x=>(dU (ρ x)).map (·,none)
 | .bin op _ x y=>(dS op (ρ x) (ρ y)).map (·,none)
 | .sh left x y=>(gU left (ρ x) (ρ y)).map (·,none)
 | .Ox op x y=>(cY op (ρ x) (ρ y)).map (·,none)
 | .RQ neg t x y=>(fQ t (ρ x) (ρ y)).map fun b=>(.bool (dp neg b),none)
 | .WZ neg ts x y=>match ρ x,ρ y with
  | .agg xs,.agg ys=>(e6 ts xs ys).map fun b=>(.bool (dp neg b),none)
  |_,_=>none
 | .U5 neg Ps x=>(dX Ps (ρ x)).map fun b=>(.bool (dp neg b),none)
 | .W4 neg x=>(NG (ρ x)).map fun b=>(.bool (dp neg b),none)
 | .not x=>(dY (ρ x)).map (·,none)
 | .neg x=>(dW (ρ x)).map (·,none)
 | .conv k x=>(cK k (ρ x)).map (·,none)
 | .Hw x=>(bU (ρ x)).map (·,none)
 | .slice sz x lo hi=>(bP g sz (ρ x) (lo.map ρ) (hi.map ρ)).map (·,none)
 | .Cg x lo hi=>(bc (ρ x) (lo.map ρ) (hi.map ρ)).map (·,none)
 | .gp off x=>(Hf off (ρ x)).map (·,none)
 | .field agg off n x=>(bK agg off n (ρ x)).map (·,none)
 | .ek sz x i=>(bL g sz (ρ x) (ρ i)).map (·,none)
 | .Pm len sz x i=>(cL len sz (ρ x) (ρ i)).map (·,none)
 | .Pp x i=>(cP (ρ x) (ρ i)).map (·,none)
 | .eG agg len n x i=>(cN agg len n (ρ x) (ρ i)).map (·,none)
 | .extract i x=>(aO i (ρ x)).map (·,none)
 | .len x=>(dV (ρ x)).map fun(n:Nat)=>(AV.int .i64 (n:Int),none)
 | .PD x=>(cR (ρ x)).map (·,none)
 | .PJ f dh=>some (.fn f (dh.map ρ),none)
 | .PK f first=>some (.vU f (first.map ρ),none)
 | .kG zero l c=>(gT zero (ρ l) (ρ c)).map fun(n,r)=>(.own id 0 n,some r)
 | .mq q xs=>bD q (xs.map ρ) g id
 | .My x=>(cU (ρ x)).map fun n=>(.sQ id,some ⟨true,sS+n,[]⟩)
 | .Mq x=>(cQ g (ρ x)).map (·,none)
 |_=>none
def bw (g:Rows):AV->Option (List (List AV))
 | .bI=>some []
 | .sl rows=>some rows
 | .own id off len=>(g id).bind fun r=>if off+len<=r.rows.length then some ((r.rows.drop off).take len)else none
 |_=>none
def cG (cs:List AV) (off:Nat) (xs:List AV):List AV:=cs.take off++xs++cs.drop (off+xs.length)
def bQ (g:Rows) (n:Nat) (v:AV):AV->Option Rows
 | .ptr id i off=>(g id).bind fun r=>(r.rows[i]?).bind fun cs=>
  if r.w/\v.cells.length=n/\v.cells.all AV.cell/\off+n<=cs.length then some (bE g id {r with rows:=r.rows.set i (cG cs off v.cells)})else none
 |_=>none
def aY (g:Rows) (id:Id) (sz:Nat) (x:AV) (ys:List (List AV)):Option (AV×Rows):=
 match x with
 | .bI=>match ys with
  |[]=>some (.bI,g)
  |y::r=>if (y::r).length<=dz/\(y::r).all (fun c=>c.length==sz&&c.all AV.cell)then some (.own id 0 (y::r).length,bE g id ⟨true,sz,y::r⟩)else none
 | .own i 0 len=>(g i).bind fun r=>
  if r.w/\r.sz=sz/\len=r.rows.length/\len+ys.length<=dz/\ys.all (fun c=>c.length==sz&&c.all AV.cell)then some (.own id 0 (len+ys.length),bE (cj g i) id ⟨true,sz,r.rows++ys⟩)else none
 |_=>none
def Ig (g:Rows) (sz:Nat) (x:AV) (ys:List (List AV)):Option (AV×Rows):=
 match x with
 | .own i off len=>(g i).bind fun r=>
  if r.w/\r.sz=sz/\off+len<=r.rows.length/\ys.all (fun c=>c.length==sz&&c.all AV.cell)then
   some (.int .i64 (min ys.length len:Nat),bE g i {r with rows:=r.rows.take off++ys.take (min ys.length len)++r.rows.drop (off+min ys.length len)})else none
 |_=>none
def bJ (g:Rows) (zero:List K) (x:AV):Option Rows:=
 match x with
 | .bI=>some g
 | .own i off len=>(g i).bind fun r=>
  if r.w/\r.sz=zero.length/\off+len<=r.rows.length then
   some (bE g i {r with rows:=r.rows.take off++List.replicate len (zero.map K.av)++r.rows.drop (off+len)})else none
 |_=>none
def fV (o:gV) (ρ:O->AV) (g:Rows) (id:Id):Option (AV×Rows):=
 match o with
 | .store n a x=>(bQ g n (ρ x) (ρ a)).map fun g'=>(.undef,g')
 | .append sz x y=>(bw g (ρ y)).bind fun ys=>aY g id sz (ρ x) ys
 | .copy sz x y=>(bw g (ρ y)).bind fun ys=>Ig g sz (ρ x) ys
 | .clear zero x=>(bJ g zero (ρ x)).map fun g'=>(.undef,g')
 | .mw q xs=>(bG q (xs.map ρ) g).map fun g'=>(.undef,g')
 |_=>none
def xu:AV->List AV->Option (Nat×List AV)
 | .fn f dh,l=>some (f,l++dh)
 | .vU f first,l=>some (f,first++l)
 |_,_=>none
abbrev gn:=Nat->List AV->aw->(AV->aw->Prop)->Prop
mutual
def fz (g:Rows):Nat->AV->Option AV
 |0,_=>none
 |n+1,a=>match a with
  | .own id off len=>match g id with
   |some r=>if r.w then(if off+len<=r.rows.length then(eo g n ((r.rows.drop off).take len)).map AV.sl else none)else none
   |none=>none
  | .ptr id i off=>match g id with
   |some r=>if r.w then(match r.rows[i]? with
    |some cs=>(cZ g n (cs.drop off)).map AV.dn
    |none=>none)else none
   |none=>none
  | .agg cs=>(cZ g n cs).map AV.agg
  | .gJ vs=>(cZ g n vs).map AV.gJ
  | .fn f dh=>if dh.all AV.cell then(cZ g n dh).map (AV.fn f)else none
  | .map _ _| .vU _ _| .sQ _=>none
  |v=>some v
 termination_by n _=>(n,0)
def cZ (g:Rows):Nat->List AV->Option (List AV)
 |n,[]=>some []
 |n,a::r=>match fz g n a with
  |some b=>(cZ g n r).map (b::·)
  |none=>none
 termination_by n l=>(n,l.length+1)
def eo (g:Rows):Nat->List (List AV)->Option (List (List AV))
 |n,[]=>some []
 |n,c::r=>match cZ g n c with
  |some b=>(eo g n r).map (b::·)
  |none=>none
 termination_by n l=>(n,(l.map (fun c=>c.length+2)).sum+1)
 decreasing_by all_goals simp_wf;try omega
end
mutual
def gF (g:Rows):Nat->AV->Option AV
 |0,_=>none
 |n+1,a=>match a with
  | .own id off len=>match g id with
   |some r=>if r.w then(if off+len<=r.rows.length then(gN g n ((r.rows.drop off).take len)).map AV.sl else none)else none
   |none=>none
  | .ptr id i off=>match g id with
   |some r=>if r.w then(match r.rows[i]? with
    |some cs=>(ep g n (cs.drop off)).map AV.dn
    |none=>none)else none
   |none=>none
  | .agg cs=>(ep g n cs).map AV.agg
  | .gJ vs=>(ep g n vs).map AV.gJ
  | .int k m=>some (.int k m)
  | .bool b=>some (.bool b)
  | .str s=>some (.str s)
  | .bI=>some .bI
  | .iA=>some .iA
  | .jo=>some .jo
  | .jE=>some .jE
  |_=>none
 termination_by n _=>(n,0)
def ep (g:Rows):Nat->List AV->Option (List AV)
 |n,[]=>some []
 |n,a::r=>match gF g n a with
  |some b=>(ep g n r).map (b::·)
  |none=>none
 termination_by n l=>(n,l.length+1)
def gN (g:Rows):Nat->List (List AV)->Option (List (List AV))
 |n,[]=>some []
 |n,c::r=>match ep g n c with
  |some b=>(gN g n r).map (b::·)
  |none=>none
 termination_by n l=>(n,(l.map (fun c=>c.length+2)).sum+1)
 decreasing_by all_goals simp_wf;try omega
end
def dH (g:Rows):Rows:=fun id=>(g id).map fun r=>{r with w:=true}
def PC (X:gn) (f:Nat) (args:List AV) (σ:aw) (K:AV->Prop):Prop:=
 X f args ⟨ro σ.get,σ.next⟩ fun r σ'=>∃r',fz σ'.get 6 r=some r'/\K r'
def PCv (X:gn) (f:Nat) (args:List AV) (σ:aw) (K:AV->Prop):Prop:=
 ∃args',cZ (dH σ.get) 6 args=some args'/\X f args' ⟨fun _=>none,σ.next⟩ fun r σ'=>∃r',gF σ'.get 6 r=some r'/\K r'
def gw (X:gn) (f:Nat) (args:List AV) (σ:aw) (K:AV->Prop):Prop:=PC X f args σ K∨PCv X f args σ K
def aM (g:Option (Nat×Bool)) (env:Env):Bool:=
 match g with
 |none=>true
 |some (t,b)=>match env t with
  | .bool c=>c==b
  |_=>false
def AV.plain:AV->Bool
 | .int .. | .bool _| .str _| .bI| .iA| .jo| .jE=>true
 |_=>false
def CM (X:gn) (f:Nat) (args:List AV) (σ:aw) (sz:Nat) (rows:List (List AV)):Prop:=
 (∀c∈rows,∀a∈c,a.plain=true)/\∃args',cZ (dH σ.get) 6 args=some args'/\X f args' ⟨fun _=>none,σ.next⟩ fun r σ'=>∃id,r=.own id 0 rows.length/\σ'.get id=some ⟨true,sz,rows⟩
def cE (X:gn) (draw:Bool) (hid:List Nat) (site:Nat) (f:Nat) (args:List AV) (σ:aw) (next:AV->aw->Prop):Prop:=
 (∃r,gw X f args ⟨fS hid σ.next σ.get,σ.next+1⟩ (fun r'=>r'=r)/\next r σ)∨
 (draw=false/\X f args ⟨σ.get,σ.next+1⟩ next)∨
 (hid.contains site=true/\∃sz rows,CM X f args ⟨fS hid σ.next σ.get,σ.next+1⟩ sz rows/\next (.own ⟨site,σ.next⟩ 0 rows.length) ⟨bE σ.get ⟨site,σ.next⟩ ⟨true,sz,rows⟩,σ.next⟩)
def fE (X:gn) (draw:Bool) (o:bx) (env:Env) (σ:aw) (next:AV->aw->Prop):Prop:=
 match o.op with
 | .call f args=>cE X draw o.hid o.site f (args.map (dc env)) σ next
 | .vk x args=>match dc env x with
  | .fn f dh=>cE X draw o.hid o.site f (args.map (dc env)++dh) σ next
  | .vU f first=>cE X draw o.hid o.site f (first++args.map (dc env)) σ next
  |_=>False
 | .store .. | .append .. | .copy .. | .clear .. | .mw .. =>match fV o.op (dc env) σ.get ⟨o.site,σ.next⟩with
  |some (v,g)=>next v ⟨g,σ.next⟩
  |none=>False
 |_=>match eM o.op (dc env) (fS o.hid σ.next σ.get) ⟨o.site,σ.next⟩with
  |some (v,some r)=>next v ⟨bE σ.get ⟨o.site,σ.next⟩ r,σ.next⟩
  |some (v,none)=>next v σ
  |none=>False
def wpOps (X:gn) (draw:Bool):List bx->(Env->aw->Prop)->Env->aw->Prop
 |[],K,env,σ=>K env ⟨σ.get,σ.next+1⟩
 |o::r,K,env,σ=>
  if aM o.guard env then fE X draw o env σ fun v σ'=>wpOps X draw r K (upd env o.dst v) σ'
  else wpOps X draw r K (upd env o.dst .undef) σ
def cz:List bx->(Env->aw->Prop)->Env->aw->Prop
 |[],K,env,σ=>K env ⟨σ.get,σ.next+1⟩
 |o::r,K,env,σ=>o.guard=none/\match o.op with
  | .snd x y=>match ea σ.get (dc env x) (dc env y)with
   |some g=>cz r K (upd env o.dst .undef) ⟨g,σ.next⟩
   |none=>False
  | .Tl x=>match dZ σ.get (dc env x)with
   |some (v,g)=>cz r K (upd env o.dst v) ⟨g,σ.next⟩
   |none=>False
  |op=>match eM op (dc env) σ.get ⟨o.site,σ.next⟩with
   |some (v,none)=>cz r K (upd env o.dst v) σ
   |_=>False
def dj (next:Env->aw->Prop) (Q:Ex->Env->aw->Prop):Ex->Env->aw->Prop
 | .normal=>next
 |e=>Q e
def aZ (id:Nat) (Q:Ex->Env->aw->Prop):Ex->Env->aw->Prop
 | .exit kE=>if kE=id then Q .normal else Q (.exit kE)
 |e=>Q e
def HW (W:(Ex->Env->aw->Prop)->Env->aw->Prop) (Q:Ex->Env->aw->Prop):Nat->Env->aw->Prop
 |0=>fun _ _=>False
 |n+1=>W (dj (HW W Q n) Q)
def PE (t s:Nat) (y:O) (env:Env) (n:Nat):Prop:=(∃len,env t=.own ⟨s,n⟩ 0 len)/\∀id o l,dc env y=.own id o l->id.bj≠n
def dK (X:gn):VC->(Ex->Env->aw->Prop)->Env->aw->Prop
 | .skip,Q=>Q .normal
 | .eQ draw ops,Q=>wpOps X draw ops (Q .normal)
 | .seq a b,Q=>dK X a (dj (dK X b Q) Q)
 | .cond c x y,Q=>fun env σ=>match dc env c with
  | .bool b=>if b then dK X x Q env σ else dK X y Q env σ
  |_=>False
 | .block id c,Q=>dK X c (aZ id Q)
 | .loop c,Q=>fun env σ=>∃n,HW (dK X c) Q n env σ
 | .exit id,Q=>Q (.exit id)
 | .ret,Q=>Q .ret
 | .one o c,Q=>fun env σ=>if aM o.guard env then fE X false o env σ fun v σ'=>dK X c Q (upd env o.dst v) σ' else dK X c Q (upd env o.dst .undef) σ
 | .both a b,Q=>fun env σ=>dK X a Q env σ/\dK X b Q env σ
 | .loc t s y c,Q=>fun env σ=>PE t s y env σ.next/\dK X c Q env σ
 | .RI ops,Q=>cz ops (Q .normal)
def iU (env:Env) (g:Rows):oR->Option AV
 | .tmp t=>some (env t)
 | .cell agg n t=>ld g agg n (env t)
def fM (env:Env) (g:Rows):List oR->Option (List AV)
 |[]=>some []
 |r::l=>(iU env g r).bind fun v=>(fM env g l).map (v::·)
def fc:List AV->AV
 |[v]=>v
 |l=>.gJ l
def cr (args:List AV):Env:=fun t=>args.getD t .undef
def lE (res:List oR) (K:AV->aw->Prop):Ex->Env->aw->Prop
 | .exit _,_,_=>False
 |_,env,σ=>∃vs,fM env σ.get res=some vs/\K (fc vs) σ
inductive kd (P:Program) (w:World) (D:Nat->Prop):AV->Value->Prop
 |int (k n):kd P w D (.int k n) (.int k n)
 |bool (b):kd P w D (.bool b) (.bool b)
 |str (s):kd P w D (.str s) (.string s)
 |bI:kd P w D .bI (.slice none 0 0)
 |iA:kd P w D .iA (.pointer none)
 |jo:kd P w D .jo .nilFunc
 |CJ (a c):c<=maxLen->kd P w D (.sl []) (.slice a 0 c)
 |sl (rows b o n c sz) (vs:Nat->Nat->Value):rows.length=n->n<=c->c<=maxLen->D b->(∀cs∈rows,cs.length=sz)->(∀cs∈rows,∀a∈cs,a.cell=true)->
   (∀i j,i<n->j<sz->w.cell? ⟨b,o+(i*sz+j),none⟩=some (vs i j))->
   (∀i j cs a,rows[i]? =some cs->cs[j]? =some a->kd P w D a (vs i j))->kd P w D (.sl rows) (.slice (some ⟨b,o,none⟩) n c)
 |dn (cs b o) (vs:Nat->Value):D b->(∀a∈cs,a.cell=true)->(∀j,j<cs.length->w.cell? ⟨b,o+j,none⟩=some (vs j))->
   (∀j a,cs[j]? =some a->kd P w D a (vs j))->kd P w D (.dn cs) (.pointer (some ⟨b,o,none⟩))
 |agg (cs) (vs:Array Value) (f:Nat->Value):vs.size=cs.length->(∀a∈cs,a.cell=true)->(∀j,j<cs.length->vs[j]? =some (f j))->(∀j a,cs[j]? =some a->kd P w D a (f j))->kd P w D (.agg cs) (.agg vs)
 |fn (f dh) (vs:Array Value) (g:Nat->Value):gz P f=true->vs.size=dh.length->(∀j,j<dh.length->vs[j]? =some (g j))->(∀j a,dh[j]? =some a->kd P w D a (g j))->kd P w D (.fn f dh) (.func (.func f) #[] vs)
 |jE:kd P w D .jE (.map none)
inductive BK where
 |map (m:MK)
 |chan (cap:Nat)
structure uf where
 b:Nat
 sz:Nat
 C:Nat
 k:Option BK
abbrev Names:=Id->Option uf
inductive dd (P:Program) (w:World) (D:Nat->Prop) (ι:Names):AV->Value->Prop
 |eV (a v):kd P w D a v->dd P w D ι a v
 |own (id off len o cap B):ι id=some B->B.k=none->len<=cap->(cap=0∨o=off*B.sz)->(off+cap)*B.sz<=B.C->cap<=maxLen->dd P w D ι (.own id off len) (.slice (some ⟨B.b,o,none⟩) len cap)
 |ptr (id i off B):ι id=some B->B.k=none->dd P w D ι (.ptr id i off) (.pointer (some ⟨B.b,i*B.sz+off,none⟩))
 |agg (cs) (vs:Array Value) (f:Nat->Value):vs.size=cs.length->(∀a∈cs,a.cell=true)->(∀j,j<cs.length->vs[j]? =some (f j))->(∀j a,cs[j]? =some a->dd P w D ι a (f j))->dd P w D ι (.agg cs) (.agg vs)
 |gJ (cs) (vs:Array Value) (f:Nat->Value):vs.size=cs.length->(∀j,j<cs.length->vs[j]? =some (f j))->(∀j a,cs[j]? =some a->dd P w D ι a (f j))->dd P w D ι (.gJ cs) (.tuple vs)
 |fn (f dh) (vs:Array Value) (g:Nat->Value):gz P f=true->vs.size=dh.length->(∀j,j<dh.length->vs[j]? =some (g j))->(∀j a,dh[j]? =some a->dd P w D ι a (g j))->dd P w D ι (.fn f dh) (.func (.func f) #[] vs)
 |sQ (id c B):ι id=some B->B.k=some (.chan c)->dd P w D ι (.sQ id) (.chan (some B.b))
 |map (id m B):ι id=some B->B.k=some (.map m)->dd P w D ι (.map id m) (.map (some B.b))
 |vU (f dh) (vs:Array Value) (g:Nat->Value):gz P f=true->vs.size=dh.length->(∀j,j<dh.length->vs[j]? =some (g j))->(∀j a,dh[j]? =some a->dd P w D ι a (g j))->dd P w D ι (.vU f dh) (.func (.func f) vs #[])
variable {P:Program} {w w':World} {D D':Nat->Prop} {ι ι':Names}
theorem kd.frame (hD:∀b,D b->w'.heap[b]? =w.heap[b]?) (hs:∀b,D b->D' b) {a:AV} {v:Value} (h:kd P w D a v):kd P w' D' a v:=by
 induction h with
 |int k n=>exact .int k n
 |bool b=>exact .bool b
 |str s=>exact .str s
 |bI=>exact .bI
 |iA=>exact .iA
 |jo=>exact .jo
 |jE=>exact .jE
 |CJ a c h=>exact .CJ a c h
 |sl rows b o n c sz vs h1 h2 h3 h4 h5 h5' h6 _ ih=>exact .sl rows b o n c sz vs h1 h2 h3 (hs b h4) h5 h5' (fun i j hi hj=>(World.cell?_of_block (hD b h4)).trans (h6 i j hi hj)) ih
 |dn cs b o vs h1 QD h2 _ ih=>exact .dn cs b o vs (hs b h1) QD (fun j hj=>(World.cell?_of_block (hD b h1)).trans (h2 j hj)) ih
 |agg cs vs f h1 h2 h3 _ ih=>exact .agg cs vs f h1 h2 h3 ih
 |fn f dh vs g h1 h2 h3 _ ih=>exact .fn f dh vs g h1 h2 h3 ih
theorem dd.frame (hD:∀b,D b->w'.heap[b]? =w.heap[b]?) (hs:∀b,D b->D' b) (hι:∀id B,ι id=some B->ι' id=some B) {a:AV} {v:Value} (h:dd P w D ι a v):dd P w' D' ι' a v:=by
 induction h with
 |eV a v h=>exact .eV a v (h.frame hD hs)
 |map id m B h1 h2=>exact .map id m B (hι _ _ h1) h2
 |sQ id c B h1 h2=>exact .sQ id c B (hι _ _ h1) h2
 |own id off len o cap B h1 h2 h3 h4 h5 h6=>exact .own id off len o cap B (hι _ _ h1) h2 h3 h4 h5 h6
 |ptr id i off B h1 h2=>exact .ptr id i off B (hι _ _ h1) h2
 |agg cs vs f h1 h2 h3 _ ih=>exact .agg cs vs f h1 h2 h3 ih
 |gJ cs vs f h1 h2 _ ih=>exact .gJ cs vs f h1 h2 ih
 |fn f dh vs g h1 h2 h3 _ ih=>exact .fn f dh vs g h1 h2 h3 ih
 |vU f dh vs g h1 h2 h3 _ ih=>exact .vU f dh vs g h1 h2 h3 ih
theorem dd.undef:dd P w D ι .undef Go.undef:=.gJ [] #[] (fun _=>Go.undef) rfl (fun j hj=>by simp at hj) (fun j a h=>by simp at h)
theorem yI (c:K):dd P w D ι c.av c.val:=by
 cases c with
 |int k n=>exact .eV _ _ (.int k n)
 |bool b=>exact .eV _ _ (.bool b)
 |str l=>exact .eV _ _ (.str _)
 |bI=>exact .eV _ _ .bI
 |iA=>exact .eV _ _ .iA
 |jo=>exact .eV _ _ .jo
 |jE=>exact .eV _ _ .jE
theorem K.nQ (c:K):c.av.cell=true:=by cases c<;>rfl
theorem BG {v:Value} {c:K} (h:Jo v=some c):v=c.val:=by
 unfold Jo at h
 split at h<;>simp at h<;>subst h<;>rfl
theorem dd.Da {a:AV} {v:Value} (h:dd P w D ι a v) (hc:a.cell=true):v.cells= #[v]/\(∀vs,v≠.agg vs)/\(∀vs,v≠.tuple vs):=by
 cases h with
 |eV a v h=>cases h<;>simp_all [AV.cell,Value.cells]
 |own=>simp[Value.cells]
 |map=>simp[Value.cells]
 |sQ=>simp[Value.cells]
 |ptr=>simp[Value.cells]
 |agg=>simp[AV.cell]at hc
 |gJ=>simp[AV.cell]at hc
 |fn=>simp[Value.cells]
 |vU=>simp[Value.cells]
theorem dd.cells {a:AV} {v:Value} (h:dd P w D ι a v) (ha:a.cells.all AV.cell=true):v.cells.size=a.cells.length/\∃f:Nat->Value,(∀j,j<a.cells.length->v.cells[j]? =some (f j))/\∀j x,a.cells[j]? =some x->dd P w D ι x (f j):=by
 have one:∀(a:AV) (v:Value),a.cell=true->a.cells=[a]->dd P w D ι a v->v.cells.size=a.cells.length/\∃f:Nat->Value,(∀j,j<a.cells.length->v.cells[j]? =some (f j))/\∀j x,a.cells[j]? =some x->dd P w D ι x (f j):=by
  intro a v hc dx h
  obtain⟨h1,_,_⟩:=h.Da hc
  rw[h1,dx]
  refine⟨rfl,fun _=>v,fun j hj=>?_,fun j x hx=>?_⟩
  ·have:j=0:=by simp at hj;omega
   subst this;rfl
  ·cases j with
   |zero=>simp at hx;subst hx;exact h
   |succ j=>simp at hx
 cases h with
 |eV a v h=>
  cases h with
  |agg cs vs f h1 h2 h3 h4=>exact⟨h1,f,h3,fun j x hx=>.eV _ _ (h4 j x hx)⟩
  |_=>exact one _ _ rfl rfl (.eV _ _ (by constructor<;>assumption))
 |own id off len o cap B h1 h2 h3 h4 h5 h6=>exact one _ _ rfl rfl (.own id off len o cap B h1 h2 h3 h4 h5 h6)
 |ptr id i off B h1 h2=>exact one _ _ rfl rfl (.ptr id i off B h1 h2)
 |map id m B h1 h2=>exact one _ _ rfl rfl (.map id m B h1 h2)
 |sQ id c B h1 h2=>exact one _ _ rfl rfl (.sQ id c B h1 h2)
 |agg cs vs f h1 h2 h3 h4=>exact⟨h1,f,h3,h4⟩
 |gJ cs vs f h1 h2 h3=>simp[AV.cells,AV.cell]at ha
 |fn f dh vs g h1 h2 h3 h4=>exact one _ _ rfl rfl (.fn f dh vs g h1 h2 h3 h4)
 |vU f dh vs g h1 h2 h3 h4=>exact one _ _ rfl rfl (.vU f dh vs g h1 h2 h3 h4)
structure lL (P:Program) (w:World) (D:Nat->Prop) (ι:Names) (B:uf) (r:Row):Prop where
 sz:B.sz=r.sz
 tV:∃cells T,w.heap[B.b]? =some (.cells cells T (0,0))/\cells.size=B.C
 fits:r.rows.length*r.sz<=B.C
 len:∀cs∈r.rows,cs.length=r.sz
 flat:∀cs∈r.rows,∀a∈cs,a.cell=true
 at_:∀i j cs a,r.rows[i]? =some cs->cs[j]? =some a->∃v,w.cell? ⟨B.b,i*r.sz+j,none⟩=some v/\dd P w D ι a v
def Hn (es:Array MapEntry) (clock:Nat):Prop:=(∀x∈es.toList,x.born<clock)/\(es.toList.map (·.born)).Nodup
def Qv (P:Program) (w:World) (D:Nat->Prop) (ι:Names) (B:uf) (m:MK) (r:Row):Prop:=
 ∃(es:Array MapEntry) (clock:Nat),w.heap[B.b]? =some (.map es clock)/\es.size=r.rows.length/\((∀cs∈r.rows,cs.length=m.ks+1)/\Hn es clock)/\
  ∀(i:Nat) (cs:List AV),r.rows[i]? =some cs->∃(e:MapEntry) (kv vv:AV),es[i]? =some e/\part m.ka m.ks cs=some kv/\cs[m.ks]? =some vv/\dd P w D ι kv e.key/\dd P w D ι vv e.val
def KI (P:Program) (w:World) (D:Nat->Prop) (ι:Names) (B:uf) (c:Nat) (r:Row):Prop:=
 ∃(buf:Array Value) (s q:Nat),w.heap[B.b]? =some (.chan c buf false s q false)/\buf.size=r.rows.length/\
  ∀(i:Nat) (cs:List AV),r.rows[i]? =some cs->∃(a:AV) (u:Value),cs=[a]/\buf[i]? =some u/\dd P w D ι a u
structure iF (P:Program) (w:World) (D:Nat->Prop) (ι:Names) (B:uf) (r:Row):Prop where
 sz:B.sz=r.sz
 flat:∀cs∈r.rows,∀a∈cs,a.cell=true
 row:B.k=none->lL P w D ι B r
 map:∀m,B.k=some (.map m)->r.sz=m.lq/\Qv P w D ι B m r
 chan:∀c,B.k=some (.chan c)->r.sz=sS+c/\KI P w D ι B c r
theorem lL.obj {B:uf} {r:Row} (R:lL P w D ι B r) (h:B.k=none):iF P w D ι B r:=⟨R.sz,R.flat,fun _=>R,fun m hm=>(by rw[h]at hm;cases hm),fun m hm=>by rw[h]at hm;cases hm⟩
theorem iF.flag {B:uf} {r:Row} (R:iF P w D ι B r) (b:Bool):iF P w D ι B {r with w:=b}:=⟨R.sz,R.flat,fun h=>⟨R.sz,(R.row h).tV,(R.row h).fits,(R.row h).len,R.flat,(R.row h).at_⟩,R.map,R.chan⟩
theorem iF.PM {B:uf} {r:Row} (R:iF P w D ι B r) {c:Array Value} {T:TypeId} {z:Nat×Nat} (h:w.heap[B.b]? =some (.cells c T z)):B.k=none:=by
 cases hk:B.k with
 |none=>rfl
 |some m=>
  cases m with
  |map m=>obtain⟨_,es,c,h3,_⟩:=R.map m hk;rw[h]at h3;cases h3
  |chan c=>obtain⟨_,buf,s,q,h3,_⟩:=R.chan c hk;rw[h]at h3;cases h3
theorem iF.lt {B:uf} {r:Row} (R:iF P w D ι B r):B.b<w.heap.size:=by
 cases h:B.k with
 |none=>
  obtain⟨c,T,h3,_⟩:=(R.row h).tV
  exact(Array.getElem?_eq_some_iff.1 h3).1
 |some m=>
  cases m with
  |map m=>obtain⟨_,es,c,h3,_⟩:=R.map m h;exact(Array.getElem?_eq_some_iff.1 h3).1
  |chan c=>obtain⟨_,buf,s,q,h3,_⟩:=R.chan c h;exact(Array.getElem?_eq_some_iff.1 h3).1
structure gR (P:Program) (hs:Nat) (D:Nat->Prop) (ι:Names) (g:Rows) (w:World):Prop where
 lo:hs<=w.heap.size
 dead:∀b,D b->b<w.heap.size
 row:∀id r,g id=some r->∃B,ι id=some B/\iF P w D ι B r/\(r.w=true->hs<=B.b)/\(r.w=true->¬D B.b)
 inj:∀id kE r r' B B',g id=some r->g kE=some r'->r.w=true->ι id=some B->ι kE=some B'->B.b=B'.b->id=kE
def Used (ι:Names) (n:Nat) (U:Nat->Prop):Prop:=∀id,ι id≠none->id.bj<n∨(id.bj=n/\U id.site)
structure Step (hs:Nat) (D:Nat->Prop) (ι:Names) (w:World) (D':Nat->Prop) (ι':Names) (w':World):Prop where
 below:Below hs w w'
 tf:∀b,D b->w'.heap[b]? =w.heap[b]?
 dead:∀b,D b->D' b
 names:∀id B,ι id=some B->ι' id=some B
 new:∀b,D' b->D b∨hs<=b
theorem Step.refl (hs:Nat) (D:Nat->Prop) (ι:Names) (w:World):Step hs D ι w D ι w:=⟨Below.refl _ _,fun _ _=>rfl,fun _ h=>h,fun _ _ h=>h,fun _ h=>.inl h⟩
theorem Step.trans {hs:Nat} {D D' D'':Nat->Prop} {ι ι' WY:Names} {w w' Ob:World} (h:Step hs D ι w D' ι' w') (k:Step hs D' ι' w' D'' WY Ob):Step hs D ι w D'' WY Ob:=
 ⟨h.below.trans k.below,fun b hb=>(k.tf b (h.dead b hb)).trans (h.tf b hb),fun b hb=>k.dead b (h.dead b hb),fun id B hB=>k.names id B (h.names id B hB),fun b hb=>by
  rcases k.new b hb with hb|hb
  ·exact h.new b hb
  ·exact .inr hb⟩
theorem Step.rep {hs:Nat} {D D':Nat->Prop} {ι ι':Names} {w w':World} (h:Step hs D ι w D' ι' w') {a:AV} {v:Value} (hr:dd P w D ι a v):dd P w' D' ι' a v:=hr.frame h.tf h.dead h.names
theorem dq {k n} {v:Value} (h:dd P w D ι (.int k n) v):v=.int k n:=by
 cases h with
 |eV _ _ h=>cases h;rfl
theorem fw {b} {v:Value} (h:dd P w D ι (.bool b) v):v=.bool b:=by
 cases h with
 |eV _ _ h=>cases h;rfl
theorem gi {s} {v:Value} (h:dd P w D ι (.str s) v):v=.string s:=by
 cases h with
 |eV _ _ h=>cases h;rfl
theorem ji {v:Value} (h:dd P w D ι .bI v):v=.slice none 0 0:=by
 cases h with
 |eV _ _ h=>cases h;rfl
theorem yJ {v:Value} (h:dd P w D ι .jo v):v=.nilFunc:=by
 cases h with
 |eV _ _ h=>cases h;rfl
theorem iY {cs} {v:Value} (h:dd P w D ι (.agg cs) v):∃(vs:Array Value) (f:Nat->Value),v=.agg vs/\vs.size=cs.length/\(∀a∈cs,a.cell=true)/\(∀j,j<cs.length->vs[j]? =some (f j))/\∀j a,cs[j]? =some a->dd P w D ι a (f j):=by
 cases h with
 |eV _ _ h=>
  cases h with
  |agg cs vs f h1 h2 h3 h4=>exact⟨vs,f,rfl,h1,h2,h3,fun j a h=>.eV _ _ (h4 j a h)⟩
 |agg cs vs f h1 h2 h3 h4=>exact⟨vs,f,rfl,h1,h2,h3,h4⟩
theorem w9 {cs} {v:Value} (h:dd P w D ι (.gJ cs) v):∃(vs:Array Value) (f:Nat->Value),v=.tuple vs/\vs.size=cs.length/\(∀j,j<cs.length->vs[j]? =some (f j))/\∀j a,cs[j]? =some a->dd P w D ι a (f j):=by
 cases h with
 |eV _ _ h=>cases h
 |gJ cs vs f h1 h2 h3=>exact⟨vs,f,rfl,h1,h2,h3⟩
theorem uR {f dh} {v:Value} (h:dd P w D ι (.fn f dh) v):∃(vs:Array Value) (g:Nat->Value),v=.func (.func f) #[] vs/\gz P f=true/\vs.size=dh.length/\(∀j,j<dh.length->vs[j]? =some (g j))/\∀j a,dh[j]? =some a->dd P w D ι a (g j):=by
 cases h with
 |eV _ _ h=>
  cases h with
  |fn f dh vs g h1 h2 h3 h4=>exact⟨vs,g,rfl,h1,h2,h3,fun j a h=>.eV _ _ (h4 j a h)⟩
 |fn f dh vs g h1 h2 h3 h4=>exact⟨vs,g,rfl,h1,h2,h3,h4⟩
theorem MU {v:Value} (h:dd P w D ι .iA v):v=.pointer none:=by
 cases h with
 |eV _ _ h=>cases h;rfl
theorem EF {v:Value} (h:dd P w D ι .jE v):v=.map none:=by
 cases h with
 |eV _ _ h=>cases h;rfl
theorem P6 {f dh} {v:Value} (h:dd P w D ι (.vU f dh) v):∃(vs:Array Value) (g:Nat->Value),v=.func (.func f) vs #[]/\gz P f=true/\vs.size=dh.length/\(∀j,j<dh.length->vs[j]? =some (g j))/\∀j a,dh[j]? =some a->dd P w D ι a (g j):=by
 cases h with
 |eV _ _ h=>cases h
 |vU f dh vs g h1 h2 h3 h4=>exact⟨vs,g,rfl,h1,h2,h3,h4⟩
theorem ja {id off len} {v:Value} (h:dd P w D ι (.own id off len) v):∃o cap B,v=.slice (some ⟨B.b,o,none⟩) len cap/\ι id=some B/\len<=cap/\(cap=0∨o=off*B.sz)/\(off+cap)*B.sz<=B.C/\cap<=maxLen/\B.k=none:=by
 cases h with
 |eV _ _ h=>cases h
 |own id off len o cap B h1 h2 h3 h4 h5 h6=>exact⟨o,cap,B,rfl,h1,h3,h4,h5,h6,h2⟩
theorem iN {id i off} {v:Value} (h:dd P w D ι (.ptr id i off) v):∃B,v=.pointer (some ⟨B.b,i*B.sz+off,none⟩)/\ι id=some B/\B.k=none:=by
 cases h with
 |eV _ _ h=>cases h
 |ptr id i off B h1 h2=>exact⟨B,rfl,h1,h2⟩
theorem P4 {id} {v:Value} (h:dd P w D ι (.sQ id) v):∃B c,v=.chan (some B.b)/\ι id=some B/\B.k=some (.chan c):=by
 cases h with
 |eV _ _ h=>cases h
 |sQ id c B h1 h2=>exact⟨B,c,rfl,h1,h2⟩
theorem B9 {id m} {v:Value} (h:dd P w D ι (.map id m) v):∃B,v=.map (some B.b)/\ι id=some B/\B.k=some (.map m):=by
 cases h with
 |eV _ _ h=>cases h
 |map id m B h1 h2=>exact⟨B,rfl,h1,h2⟩
theorem lY {cs} {v:Value} (h:dd P w D ι (.dn cs) v):∃b o,∃vs:Nat->Value,v=.pointer (some ⟨b,o,none⟩)/\D b/\(∀a∈cs,a.cell=true)/\(∀j,j<cs.length->w.cell? ⟨b,o+j,none⟩=some (vs j))/\∀j a,cs[j]? =some a->kd P w D a (vs j):=by
 cases h with
 |eV _ _ h=>
  cases h with
  |dn cs b o vs h1 h2 h3 h4=>exact⟨b,o,vs,rfl,h1,h2,h3,h4⟩
theorem yK {rows} {v:Value} (h:dd P w D ι (.sl rows) v):∃A c,v=.slice A rows.length c/\rows.length<=c/\c<=maxLen/\
  (rows=[]∨∃b o sz,∃vs:Nat->Nat->Value,A=some ⟨b,o,none⟩/\D b/\(∀cs∈rows,cs.length=sz)/\(∀cs∈rows,∀a∈cs,a.cell=true)/\
   (∀i j,i<rows.length->j<sz->w.cell? ⟨b,o+(i*sz+j),none⟩=some (vs i j))/\∀i j cs a,rows[i]? =some cs->cs[j]? =some a->kd P w D a (vs i j)):=by
 cases h with
 |eV _ _ h=>
  cases h with
  |CJ a c h=>exact⟨a,c,rfl,Nat.zero_le _,h,.inl rfl⟩
  |sl rows b o n c sz vs h1 h2 h3 h4 h5 h5' h6 h7=>subst h1;exact⟨_,c,rfl,h2,h3,.inr ⟨b,o,sz,vs,rfl,h4,h5,h5',h6,h7⟩⟩
inductive eY:AV->Prop
 |int (k n):eY (.int k n)
 |bool (b):eY (.bool b)
 |str (s):eY (.str s)
 |bI:eY .bI
 |iA:eY .iA
 |jo:eY .jo
 |sl (rows):rows.length<=maxLen->(∀cs∈rows,∀a∈cs,eY a)->eY (.sl rows)
 |own (id off len):eY (.own id off len)
 |ptr (id i off):eY (.ptr id i off)
 |dn (cs):(∀a∈cs,eY a)->eY (.dn cs)
 |agg (cs):(∀a∈cs,eY a)->eY (.agg cs)
 |gJ (cs):(∀a∈cs,eY a)->eY (.gJ cs)
 |fn (f dh):(∀a∈dh,eY a)->eY (.fn f dh)
 |map (id m):eY (.map id m)
 |sQ (id):eY (.sQ id)
 |jE:eY .jE
 |vU (f dh):(∀a∈dh,eY a)->eY (.vU f dh)
theorem eY.len {rows:List (List AV)} (h:eY (.sl rows)):rows.length<=9223372036854775807:=by
 cases h with
 |sl _ h _=>unfold maxLen at h;omega
theorem eY.Rs {cs:List AV} (h:eY (.agg cs)) {a:AV} (ha:a∈cs):eY a:=by
 cases h with
 |agg _ h=>exact h a ha
theorem eY.D8 {cs:List AV} (h:eY (.dn cs)) {a:AV} (ha:a∈cs):eY a:=by
 cases h with
 |dn _ h=>exact h a ha
theorem p4 {l:List AV} {p:AV->Prop} (h:∀(j:Nat) (a:AV),l[j]? =some a->p a):∀a∈l,p a:=fun a ha=>by
 obtain⟨j,hj,rfl⟩:=List.getElem_of_mem ha
 exact h j _ (List.getElem?_eq_getElem hj)
theorem kd.Mp {a:AV} {v:Value} (h:kd P w D a v):eY a:=by
 induction h with
 |int k n=>exact .int k n
 |bool b=>exact .bool b
 |str s=>exact .str s
 |bI=>exact .bI
 |iA=>exact .iA
 |jo=>exact .jo
 |jE=>exact .jE
 |CJ a c h=>exact .sl [] (Nat.zero_le _) (fun cs h=>by cases h)
 |sl rows b o n c sz vs h1 h2 h3 h4 h5 h5' h6 _ ih=>
  exact .sl rows ah fun cs dx a ha=>by
   obtain⟨i,hi,rfl⟩:=List.getElem_of_mem dx
   obtain⟨j,hj,rfl⟩:=List.getElem_of_mem ha
   exact ih i j _ _ (List.getElem?_eq_getElem hi) (List.getElem?_eq_getElem hj)
 |dn cs b o vs h1 QD h2 _ ih=>exact .dn cs (p4 ih)
 |agg cs vs f h1 h2 h3 _ ih=>exact .agg cs (p4 ih)
 |fn f dh vs g h1 h2 h3 _ ih=>exact .fn f dh (p4 ih)
theorem dd.Mp {a:AV} {v:Value} (h:dd P w D ι a v):eY a:=by
 induction h with
 |eV a v h=>exact h.Mp
 |own id off len o cap B=>exact .own _ _ _
 |ptr id i off B=>exact .ptr _ _ _
 |map id m B=>exact .map _ _
 |sQ id c B=>exact .sQ _
 |agg cs vs f h1 h2 h3 _ ih=>exact .agg cs (p4 ih)
 |gJ cs vs f h1 h2 _ ih=>exact .gJ cs (p4 ih)
 |fn f dh vs g h1 h2 h3 _ ih=>exact .fn f dh (p4 ih)
 |vU f dh vs g h1 h2 h3 _ ih=>exact .vU f dh (p4 ih)
end Go.Proofs.YtgoljkjaameagaaGreat.V

namespace Go.Proofs.YtgoljkjaameagaaGreat.V
open Go.RowKit
variable {P:Program} {w w':World} {D D':Nat->Prop} {ι ι':Names}
def cD (P:Program) (w:World) (D:Nat->Prop) (ι:Names) (env:Env) (a:Act):Prop:=∀t,dd P w D ι (env t) (a.tmps.getD t undef)
theorem tn {vs:List Value} {cs:List K} (h:vs.mapM Jo=some cs):cs.length=vs.length/\∀(j:Nat) (c:K),cs[j]? =some c->vs[j]? =some c.val:=by
 induction vs generalizing cs with
 |nil=>simp at h;subst h;simp
 |cons v r ih=>
  simp only[List.mapM_cons,Option.bind_eq_bind,Option.bind_eq_some_iff]at h
  obtain⟨c,hc,rl,dx,h⟩:=h
  simp at h;subst h
  obtain⟨h1,h2⟩:=ih dx
  refine⟨by simp[h1],fun j d hd=>?_⟩
  cases j with
  |zero=>simp at hd ⊢;subst hd;exact BG hc
  |succ j=>simp at hd ⊢;exact h2 j d hd
theorem kAgg {vs:List Value} {cs:List K} (h:vs.mapM Jo=some cs):dd P w D ι (.agg (cs.map K.av)) (.agg vs.toArray):=by
 obtain⟨h1,h2⟩:=tn h
 refine .agg _ _ (fun j=>vs.getD j undef) (by simp[h1]) (fun a ha=>?_) (fun j hj=>?_) (fun j a ha=>?_)
 ·obtain⟨c,_,rfl⟩:=List.mem_map.1 ha;exact c.nQ
 ·simp at hj;simp[List.getElem?_eq_getElem (show j<vs.length by omega)]
 ·simp only[List.getElem?_map,Option.map_eq_some_iff]at ha
  obtain⟨c,hc,rfl⟩:=ha
  rw[List.getD_eq_getElem?_getD,h2 j c hc];exact yI c
theorem dw {env:Env} {a:Act} {x:Operand} {y:O} (E:cD P w D ι env a) (h:cO P x=some y):dd P w D ι (dc env y) (a.eval x):=by
 unfold cO at h
 split at h
 ·simp at h;subst h;exact E _
 ·simp only[Option.map_eq_some_iff]at h
  obtain⟨cs,dx,rfl⟩:=h
  have:=kAgg (P:=P) (w:=w) (D:=D) (ι:=ι) dx
  simpa[Act.eval,dc]using this
 ·simp only[Option.map_eq_some_iff]at h
  obtain⟨c,hc,rfl⟩:=h
  simp only[Act.eval,dc]
  rw[BG hc];exact yI c
 ·simp at h
 ·split at h
  ·rename_i hc
   simp at h;subst h
   simp only[Act.eval,dc]
   exact .fn _ _ _ (fun _=>undef) hc rfl (fun j hj=>by simp at hj) (fun j a h=>by simp at h)
  ·simp at h
def pr (P:Program) (a:Act) (o:Oper) (w:World) (D:Nat->Prop) (ι:Names) (v:AV):Prop:=∃u,(execOp a.eval o).run P w=.ok (.value u) w/\dd P w D ι v u
section
variable {g:Rows} {hs:Nat} {env:Env} {a:Act} {o:Oper} {id:Id} {v:AV}
theorem Rg {x:Operand} {y:O} (E:cD P w D ι env a) (ho:o.op=.move x∨o.op=.assign x) (hx:cO P x=some y):pr P a o w D ι (dc env y):=by
 refine⟨a.eval x,?_,dw E hx⟩
 rcases ho with h|h<;>simp[execOp,h,go_sem]
theorem TY {c x y:Operand} {c' x' y':O} (E:cD P w D ι env a) (ho:o.op=.pick c x y) (hc:cO P c=some c') (hx:cO P x=some x') (hy:cO P y=some y') (hv:cX (dc env c') (dc env x') (dc env y')=some v):pr P a o w D ι v:=by
 unfold cX at hv
 split at hv
 ·rename_i b hb
  simp at hv;subst hv
  have h1:=fw (hb▸dw E hc)
  refine⟨if b then a.eval x else a.eval y,by simp only[execOp,ho,h1,asBool];rfl,?_⟩
  cases b
  ·exact dw E hy
  ·exact dw E hx
 ·simp at hv
theorem WM {op:BinOp} {x y:Operand} {x' y':O} {t yt:TypeId} (E:cD P w D ι env a) (ho:o.op=.binOp op t x y yt) (he:op≠.eql) (hn:op≠.neq) (hx:cO P x=some x') (hy:cO P y=some y') (hv:dS op (dc env x') (dc env y')=some v):pr P a o w D ι v:=by
 unfold dS at hv
 split at hv
 ·rename_i k n k' m hb uC
  split at hv
  ·rename_i hk
   subst hk
   have h1:=dq (hb▸dw E hx)
   have h2:=dq (uC▸dw E hy)
   have key:∀u,(binOp op t (.int k n) (.int k m)).run P w=.ok u w->(execOp a.eval o).run P w=.ok (.value u) w:=fun u hu=>by
    have e0:eqGuard op t x y (.int k n) (.int k m)=pure ():=by unfold eqGuard;cases op<;>rfl
    simp only[execOp,ho,h1,h2,e0]
    simp[go_sem,hu]
   cases op<;>simp only[dy]at hv<;>(try(simp at hv;done))<;>(try split at hv)<;>(try(simp at hv;done))<;>simp only[Option.some.injEq]at hv<;>subst hv<;>
    (refine⟨_,key _ (by simp only[binOp,ne_eq,not_true_eq_false,if_false,Op.intArith,Op.intDiv,Op.intBits,Op.intCmp, *];rfl),?_⟩)<;>
    first
     |exact .eV _ _ (.int _ _)
     |exact .eV _ _ (.bool _)
  ·simp at hv
 ·simp at hv
theorem TH {op:BinOp} {x y:Operand} {x' y':O} {t yt:TypeId} (E:cD P w D ι env a) (ho:o.op=.binOp op t x y yt) (he:op≠.eql) (hn:op≠.neq) (hx:cO P x=some x') (hy:cO P y=some y') (hv:cY op (dc env x') (dc env y')=some v):pr P a o w D ι v:=by
 unfold cY at hv
 split at hv
 ·rename_i n m hb uC
  have h1:=gi (hb▸dw E hx)
  have h2:=gi (uC▸dw E hy)
  cases op<;>simp only[ee]at hv<;>(try(simp at hv;done))
  case add=>
   split at hv
   ·rename_i hl
    simp only[Option.some.injEq]at hv;subst hv
    exact⟨_,by simp only[execOp,ho,h1,h2];simp[eqGuard,binOp,go_sem];exact hl,.eV _ _ (.str _)⟩
   ·simp at hv
  all_goals
   simp only[Option.some.injEq]at hv;subst hv
   exact⟨_,by simp only[execOp,ho,h1,h2];simp[eqGuard,binOp,Op.stringOp,go_sem],.eV _ _ (.bool _)⟩
 ·simp at hv
theorem Ib (n m:ByteArray):(n.toList==m.toList)=decide (n=m):=by
 rw[ByteArray.toList_eq,ByteArray.toList_eq]
 by_cases h:n=m
 ·subst h;simp
 ·have:n.data.toList≠m.data.toList:=fun he=>h (ByteArray.ext (Array.ext' he))
  rw[decide_eq_false h];exact beq_eq_false_iff_ne.2 this
theorem qJ {t:TypeId} (h:fJ P t=some .tB):P.underlying t=some .bool:=by unfold fJ at h;split at h<;>simp_all
theorem qK {t:TypeId} (h:fJ P t=some .tI):∃k,P.underlying t=some (.int k):=by unfold fJ at h;split at h<;>simp_all
theorem qL {t:TypeId} (h:fJ P t=some .tS):P.underlying t=some .string:=by unfold fJ at h;split at h<;>simp_all
theorem tF {d:Nat} {t:TypeId} {s:TS} {x y:AV} {u u':Value} {b:Bool} (hx:dd P w D ι x u) (hy:dd P w D ι y u') (hv:fQ s x y=some b) (ht:fJ P t=some s):(Op.equalIn (d+1) t u u').run P w=.ok b w:=by
 unfold fQ at hv
 split at hv
 ·rename_i k n k' m
  split at hv
  ·rename_i hk
   subst hk
   simp at hv;subst hv
   obtain⟨q,hq⟩:=qK ht
   rw[dq hx,dq hy,run_equalIn_int _ _ _ _ _ _ _ hq];rfl
  ·simp at hv
 ·simp at hv;subst hv
  rw[fw hx,fw hy,run_equalIn_bool' _ _ _ _ _ (qJ ht)]
 ·simp at hv;subst hv
  rw[gi hx,gi hy,run_equalIn_string _ _ _ _ _ (qL ht),Ib]
 ·simp at hv
def fG (P:Program) (w:World) (D:Nat->Prop) (ι:Names) (xs:List AV) (vs:Array Value):Prop:=vs.size=xs.length/\∀(j:Nat) (a:AV),xs[j]? =some a->∃u,vs[j]? =some u/\dd P w D ι a u
theorem fG.part {xs:List AV} {vs:Array Value} (h:fG P w D ι xs vs) (off n:Nat) (hn:off+n<=xs.length):fG P w D ι ((xs.drop off).take n) (vs.extract off (off+n)):=by
 refine⟨by simp[h.1];omega,fun j a ha=>?_⟩
 rw[List.getElem?_take]at ha
 split at ha
 ·rename_i hj
  rw[List.getElem?_drop]at ha
  obtain⟨u,h1,h2⟩:=h.2 _ _ ha
  refine⟨u,?_,h2⟩
  rw[Array.getElem?_extract]
  rw[if_pos (by rw[h.1];omega),h1]
 ·simp at ha
theorem sW:∀{ts:List TS} {xs ys:List AV} {b:Bool},e6 ts xs ys=some b->xs.length=ts.length/\ys.length=ts.length
 |[],[],[],_,_=>⟨rfl,rfl⟩
 |t::ts,x::xs,y::ys,b,h=>by
  unfold e6 at h
  split at h
  ·rename_i c d h1 h2
   have:=sW h2
   simp[this.1,this.2]
  ·simp at h
 |[],[],_::_,_,h=>by simp[e6]at h
 |[],_::_,_,_,h=>by simp[e6]at h
 |_::_,[],_,_,h=>by simp[e6]at h
 |_::_,_::_,[],_,h=>by simp[e6]at h
theorem HA:∀{ts us:List TS} {xs ys:List AV} {b:Bool},e6 (ts++us) xs ys=some b->∃c d,e6 ts (xs.take ts.length) (ys.take ts.length)=some c/\e6 us (xs.drop ts.length) (ys.drop ts.length)=some d/\b=(c&&d)
 |[],us,xs,ys,b,h=>⟨true,b,by simp[e6],by simpa using h,by simp⟩
 |t::ts,us,x::xs,y::ys,b,h=>by
  simp only[List.cons_append]at h
  unfold e6 at h
  split at h
  ·rename_i c d h1 h2
   obtain⟨c',d',h3,h4,rfl⟩:=HA h2
   simp at h;subst h
   exact⟨c&&c',d',by simp[e6,h1,h3],by simpa using h4,by simp[Bool.and_assoc]⟩
  ·simp at h
 |t::ts,us,[],ys,b,h=>by simp[e6]at h
 |t::ts,us,x::xs,[],b,h=>by simp[e6]at h
theorem nE {t:TypeId} {vs:Array Value} {off:Nat} {u:Value} (ha:oY P t=some false) (hu:vs[off]? =some u):(Go.part t vs off).run P w=.ok u w:=by
 unfold oY at ha
 have hi:(isAgg t).run P w=.ok false w:=by
  split at ha<;>simp at ha
  rename_i d h1 h2 hd
  simp only[isAgg,Sem.run_bind,run_underlying hd,Result.andThen_ok]
  cases d<;>simp_all
 simp[Go.part,hi,hu]
theorem uT {t:TypeId} {b:Bool} (ha:oY P t=some b):(isAgg t).run P w=.ok b w:=by
 unfold oY at ha
 split at ha<;>simp at ha<;>subst ha<;>rename_i hd<;>simp only[isAgg,Sem.run_bind,run_underlying hd,Result.andThen_ok]<;>(try simp)
theorem run_sizeOf {t:TypeId} {n:Nat} (h:eC P t=some n):(sizeOf t).run P w=.ok n w:=by
 unfold eC at h
 simp only[Option.map_eq_some_iff]at h
 obtain⟨i,hi,rfl⟩:=h
 simp[sizeOf,typeInfo,hi]
theorem qI {t:TypeId} {vs:Array Value} {off n:Nat} (ha:oY P t=some true) (hn:eC P t=some n):(Go.part t vs off).run P w=.ok (.agg (vs.extract off (off+n))) w:=by
 simp[Go.part,uT ha,run_sizeOf hn]
theorem Ly (d off:Nat):eU P (d+1) off []=some []:=rfl
theorem zZ (d off:Nat) (f:Field) (r:List Field):eU P (d+1) off (f::r)=(if f.offset=off/\f.name≠ "_" then
   match fJ P f.type with
   |some t=>if oY P f.type=some false then(eU P (d+1) (off+1) r).map (t::·)else none
   |none=>match P.underlying f.type with
    |some (.struct fs)=>if !P.stoodInHeld f.type then match eU P d 0 fs.toList with
     |some ts=>if eC P f.type=some ts.length/\ts≠[]then(eU P (d+1) (off+ts.length) r).map (ts++·)else none
     |none=>none else none
    |_=>none
  else none):=rfl
theorem tE:∀(d:Nat) (fs:List Field) (off:Nat) (ts:List TS),eU P d off fs=some ts->∀(N:Nat) (_:d<=N) (xs ys:List AV) (vs us:Array Value) (b:Bool),fG P w D ι xs vs->fG P w D ι ys us->
  e6 ts ((xs.drop off).take ts.length) ((ys.drop off).take ts.length)=some b->(Op.eqFields (N+1) vs us fs).run P w=.ok b w:=by
 intro d
 induction d with
 |zero=>
  intro fs off ts hf N _ xs ys vs us b _ _ he
  cases fs with
  |nil=>simp[eU]at hf;subst hf;simp[e6]at he;subst he;simp[Op.eqFields]
  |cons f r=>simp[eU]at hf
 |succ d ihd=>
  intro fs
  induction fs with
  |nil=>
   intro off ts hf N _ xs ys vs us b _ _ he
   rw[Ly]at hf;simp at hf;subst hf;simp[e6]at he;subst he;simp[Op.eqFields]
  |cons f r ih=>
   intro off ts hf N hN xs ys vs us b hx hy he
   rw[zZ]at hf
   split at hf
   ·rename_i hcond
    obtain⟨ho,iD⟩:=hcond
    split at hf
    ·rename_i s hs
     split at hf
     ·rename_i wZ
      simp only[Option.map_eq_some_iff]at hf
      obtain⟨Oa,hr,rfl⟩:=hf
      obtain⟨l1,l2⟩:=sW he
      simp only[List.length_cons,List.length_take,List.length_drop]at l1 l2
      have Ak:off<xs.length:=ah
      have X0:off<ys.length:=ah
      rw[List.drop_eq_getElem_cons Ak,List.drop_eq_getElem_cons X0,List.length_cons,List.take_succ_cons,List.take_succ_cons]at he
      unfold e6 at he
      split at he
      ·rename_i c d' h1 h2
       simp at he;subst he
       obtain⟨u,hu,ru⟩:=hx.2 off _ (List.getElem?_eq_getElem Ak)
       obtain⟨u',HO,ru'⟩:=hy.2 off _ (List.getElem?_eq_getElem X0)
       have:=ih (off+1) Oa hr N hN xs ys vs us d' hx hy h2
       simp only[Op.eqFields,if_pos iD,Sem.run_bind,ho,nE wZ hu,nE wZ HO,Result.andThen_ok,tF ru ru' h1 hs,Sem.run_ite]
       cases c<;>simp[this]
      ·simp at he
     ·simp at hf
    ·split at hf
     ·rename_i fs' s6
      split at hf
      ·rename_i dC
       split at hf
       ·rename_i ts1 hts1
        split at hf
        ·rename_i fm
         simp only[Option.map_eq_some_iff]at hf
         obtain⟨Oa,hr,rfl⟩:=hf
         obtain⟨c,d',h1,h2,rfl⟩:=HA he
         obtain⟨l1,l2⟩:=sW he
         simp only[List.length_append,List.length_take,List.length_drop]at l1 l2
         have wZ:oY P f.type=some true:=by simp[oY,s6]
         have jO:0<ts1.length:=List.length_pos_iff.2 fm.2
         have Md:off+ts1.length<=xs.length:=ah
         have hy1:off+ts1.length<=ys.length:=ah
         rw[List.drop_take,List.drop_drop,List.drop_take,List.drop_drop]at h2
         rw[List.take_take,List.take_take]at h1
         simp only[List.length_append]at h1 h2
         rw[Nat.min_eq_left ah]at h1
         have e2:ts1.length+Oa.length-ts1.length=Oa.length:=ah
         rw[e2]at h2
         have:=ih (off+ts1.length) Oa hr N hN xs ys vs us d' hx hy h2
         have fZ:=ihd fs'.toList 0 ts1 hts1 (N-1) ah _ _ _ _ c (hx.part off ts1.length Md) (hy.part off ts1.length hy1) (by simpa[List.take_take]using h1)
         have hN':N-1+1=N:=ah
         rw[hN']at fZ
         have QM:P.fieldsOf f.type=fs':=by simp[Program.fieldsOf,s6]
         simp only[Op.eqFields,if_pos iD,Sem.run_bind,ho,qI wZ fm.1,Result.andThen_ok,Sem.run_ite]
         rw[run_equalIn_struct w N f.type _ _ (by rw[QM];exact s6) (by simpa using dC),QM,fZ]
         cases c<;>simp[this]
        ·simp at hf
       ·simp at hf
      ·simp at hf
     ·simp at hf
   ·simp at hf
theorem WR {x y:Operand} {x' y':O} {t yt:TypeId} {neg:Bool} {s:TS} {b:Bool} (E:cD P w D ι env a) (ho:o.op=.binOp (if neg then .neq else .eql) t x y yt) (hs:fJ P t=some s) (hx:cO P x=some x') (hy:cO P y=some y')
  (hv:fQ s (dc env x') (dc env y')=some b):pr P a o w D ι (.bool (dp neg b)):=by
 have rx:=dw E hx
 have ry:=dw E hy
 refine⟨.bool (dp neg b),?_,.eV _ _ (.bool _)⟩
 have e0:(eqGuard (if neg then .neq else .eql) t x y (a.eval x) (a.eval y)).run P w=.ok () w:=by
  unfold fQ at hv
  split at hv
  ·rename_i k n k' m h1 h2
   rw[h1]at rx;rw[h2]at ry
   rw[dq rx,dq ry];unfold eqGuard;cases neg<;>simp
  ·rename_i n m h1 h2
   rw[h1]at rx;rw[h2]at ry
   rw[fw rx,fw ry];unfold eqGuard;cases neg<;>simp
  ·rename_i n m h1 h2
   rw[h1]at rx;rw[h2]at ry
   rw[gi rx,gi ry];unfold eqGuard;cases neg<;>simp
  ·simp at hv
 have e1:(binOp (if neg then .neq else .eql) t (a.eval x) (a.eval y)).run P w=.ok (.bool (dp neg b)) w:=by
  have q:=tF (d:=9999) rx ry hv hs
  unfold fQ at hv
  split at hv
  ·rename_i k n k' m h1 h2
   split at hv
   ·rename_i hk
    subst hk
    simp at hv;subst hv
    rw[h1]at rx;rw[h2]at ry
    rw[dq rx,dq ry]
    cases neg<;>simp only[binOp,ne_eq,not_true_eq_false,if_false,Op.intCmp,dp,if_true,Bool.false_eq_true]<;>simp[bne]<;>rfl
   ·simp at hv
  ·rename_i n m h1 h2
   rw[h1]at rx;rw[h2]at ry
   rw[fw rx,fw ry]at q ⊢
   cases neg<;>simp only[binOp,dp,if_true,Bool.false_eq_true,if_false,Sem.run_bind]<;>simp[Op.equal,Op.maxDepth,q]
  ·rename_i n m h1 h2
   simp at hv;subst hv
   rw[h1]at rx;rw[h2]at ry
   rw[gi rx,gi ry]
   cases neg<;>simp[binOp,Op.stringOp,dp,Ib]
  ·simp at hv
 simp only[execOp,ho,Sem.run_bind,e0,e1,Result.andThen_ok,Sem.run_pure]
theorem WO {x y:Operand} {x' y':O} {t yt:TypeId} {neg:Bool} {ts:List TS} {fs:Array Field} {xs ys:List AV} {b:Bool} (E:cD P w D ι env a) (ho:o.op=.binOp (if neg then .neq else .eql) t x y yt) (s6:P.underlying t=some (.struct fs)) (dC:P.stoodInHeld t=false) (O0:P.eqGuardType P.depth t=false)
  (zx:eU P 4 0 fs.toList=some ts) (hx:cO P x=some x') (hy:cO P y=some y') (h1:dc env x'=.agg xs) (h2:dc env y'=.agg ys)
  (hv:e6 ts xs ys=some b):pr P a o w D ι (.bool (dp neg b)):=by
 obtain⟨vs,f,rx,n1,_,f1,r1⟩:=iY (h1▸dw E hx)
 obtain⟨us,f',ry,n2,_,f2,r2⟩:=iY (h2▸dw E hy)
 refine⟨.bool (dp neg b),?_,.eV _ _ (.bool _)⟩
 obtain⟨l1,l2⟩:=sW hv
 have L:∀(xs:List AV) (vs:Array Value) (f:Nat->Value),vs.size=xs.length->(∀j,j<xs.length->vs[j]? =some (f j))->(∀j a,xs[j]? =some a->dd P w D ι a (f j))->fG P w D ι xs vs:=fun xs vs f h1 h2 h3=>
  ⟨h1,fun j a ha=>⟨f j,h2 j (List.getElem?_eq_some_iff.1 ha).1,h3 j a ha⟩⟩
 have q:=tE (w:=w) 4 fs.toList 0 ts zx 9998 ah xs ys vs us b (L _ _ _ n1 f1 r1) (L _ _ _ n2 f2 r2) (by simpa[List.take_of_length_le,l1,l2]using hv)
 have QM:P.fieldsOf t=fs:=by simp[Program.fieldsOf,s6]
 have q2:(Op.equal t (.agg vs) (.agg us)).run P w=.ok b w:=by
  unfold Op.equal
  rw[show Op.maxDepth=9999+1 from rfl,run_equalIn_struct w 9999 t _ _ (by rw[QM];exact s6) dC,QM,q]
 simp only[execOp,ho,Sem.run_bind,rx,ry,run_eqGuard_agg w _ _ _ _ _ _ O0,Result.andThen_ok]
 cases neg<;>simp[binOp,q2,dp]
theorem TK {x:Operand} {x':O} {t yt e:TypeId} {neg:Bool} {b:Bool} (E:cD P w D ι env a) (ho:o.op=.binOp (if neg then .neq else .eql) t x (.const (.slice none 0 0)) yt) (ht:P.underlying t=some (.slice e)) (hx:cO P x=some x')
  (hv:cW (dc env x')=some b):pr P a o w D ι (.bool (dp neg b)):=by
 have hr:=dw E hx
 have rx:∃A n c,a.eval x=.slice A n c/\b=A.isNone:=by
  unfold cW at hv
  split at hv<;>simp at hv<;>subst hv<;>rename_i hh
  ·rw[hh]at hr;exact⟨_,_,_,ji hr,rfl⟩
  ·rw[hh]at hr;obtain⟨o,cap,B,h,_⟩:=ja hr
   exact⟨_,_,_,h,rfl⟩
  ·rw[hh]at hr
   obtain⟨A,c,h',_,_,h⟩:=yK hr
   rcases h with h|⟨b,o,sz,vs,rfl,_⟩
   ·simp at h
   ·exact⟨_,_,_,h',rfl⟩
 refine⟨.bool (dp neg b),?_,.eV _ _ (.bool _)⟩
 obtain⟨A,n,c,h,rfl⟩:=rx
 have hq:(Op.equal t (.slice A n c) (.slice none 0 0)).run P w=.ok A.isNone w:=by
  unfold Op.equal
  rw[show Op.maxDepth=9999+1 from rfl,Op.equalIn]
  simp only[Sem.run_bind,run_underlying ht,Result.andThen_ok]
  cases A<;>rfl
 have hc:a.eval (.const (.slice none 0 0))=.slice none 0 0:=rfl
 simp only[execOp,ho,h,hc]
 cases neg<;>simp only[Bool.false_eq_true,if_false,if_true,Bool.not_true,Bool.not_false,eqGuard,binOp,dp,Sem.run_bind,hq,Result.andThen_ok,Sem.run_pure]
theorem WQ {x:Operand} {x':O} {t yt e:TypeId} {neg:Bool} {b:Bool} (E:cD P w D ι env a) (ho:o.op=.binOp (if neg then .neq else .eql) t x (.const (.pointer none)) yt) (ht:P.underlying t=some (.pointer e)) (hx:cO P x=some x')
  (hv:NG (dc env x')=some b):pr P a o w D ι (.bool (dp neg b)):=by
 have hr:=dw E hx
 have rx:∃A,a.eval x=.pointer A/\b=A.isNone:=by
  unfold NG at hv
  split at hv<;>simp at hv<;>subst hv<;>rename_i hh
  ·rw[hh]at hr;exact⟨_,MU hr,rfl⟩
  ·rw[hh]at hr;obtain⟨B,h,_⟩:=iN hr
   exact⟨_,h,rfl⟩
  ·rw[hh]at hr;obtain⟨_,_,_,h,_⟩:=lY hr
   exact⟨_,h,rfl⟩
 refine⟨.bool (dp neg b),?_,.eV _ _ (.bool _)⟩
 obtain⟨A,h,rfl⟩:=rx
 have hq:(Op.equal t (.pointer A) (.pointer none)).run P w=.ok A.isNone w:=by
  unfold Op.equal
  rw[show Op.maxDepth=9999+1 from rfl,Op.equalIn]
  simp only[Sem.run_bind,run_underlying ht,Result.andThen_ok]
  cases A<;>rfl
 have hc:a.eval (.const (.pointer none))=.pointer none:=rfl
 simp only[execOp,ho,h,hc]
 cases neg<;>simp only[Bool.false_eq_true,if_false,if_true,Bool.not_true,Bool.not_false,eqGuard,binOp,dp,Sem.run_bind,hq,Result.andThen_ok,Sem.run_pure]
theorem TJ {x:Operand} {x':O} {t yt:TypeId} {p r:Array TypeId} {va:Bool} {neg:Bool} {b:Bool} (E:cD P w D ι env a) (ho:o.op=.binOp (if neg then .neq else .eql) t x (.const .nilFunc) yt) (ht:P.underlying t=some (.func p r va)) (hx:cO P x=some x')
  (hv:cV (dc env x')=some b):pr P a o w D ι (.bool (dp neg b)):=by
 have hr:=dw E hx
 have rx:a.eval x=.nilFunc/\b=true∨∃f c,a.eval x=.func f #[] c/\b=false:=by
  unfold cV at hv
  split at hv<;>simp at hv<;>subst hv<;>rename_i hh
  ·rw[hh]at hr;exact .inl ⟨yJ hr,rfl⟩
  ·rw[hh]at hr;obtain⟨vs,g,h,_⟩:=uR hr
   exact .inr ⟨_,_,h,rfl⟩
 refine⟨.bool (dp neg b),?_,.eV _ _ (.bool _)⟩
 have hc:a.eval (.const .nilFunc)=.nilFunc:=rfl
 rcases rx with⟨h,rfl⟩|⟨f,c,h,rfl⟩
 ·have hq:(Op.equal t .nilFunc .nilFunc).run P w=.ok true w:=by
   unfold Op.equal
   rw[show Op.maxDepth=9999+1 from rfl,Op.equalIn]
   simp only[Sem.run_bind,run_underlying ht,Result.andThen_ok]
   rfl
  simp only[execOp,ho,h,hc]
  cases neg<;>simp only[Bool.false_eq_true,if_false,if_true,Bool.not_true,Bool.not_false,eqGuard,binOp,dp,Sem.run_bind,hq,Result.andThen_ok,Sem.run_pure]
 ·have hq:(Op.equal t (.func f #[] c) .nilFunc).run P w=.ok false w:=by
   unfold Op.equal
   rw[show Op.maxDepth=9999+1 from rfl,Op.equalIn]
   simp only[Sem.run_bind,run_underlying ht,Result.andThen_ok]
   rfl
  simp only[execOp,ho,h,hc]
  cases neg<;>simp only[Bool.false_eq_true,if_false,if_true,Bool.not_true,Bool.not_false,eqGuard,binOp,dp,Sem.run_bind,hq,Result.andThen_ok,Sem.run_pure]
theorem WU {x:Operand} {x':O} {t:TypeId} (E:cD P w D ι env a) (ho:o.op=.unOp .not t x) (hx:cO P x=some x') (hv:dY (dc env x')=some v):pr P a o w D ι v:=by
 have hr:=dw E hx
 unfold dY at hv
 split at hv
 ·rename_i b hb
  simp at hv;subst hv
  rw[hb]at hr
  exact⟨_,by simp only[execOp,ho,fw hr];rfl,.eV _ _ (.bool _)⟩
 ·simp at hv
theorem WT {x:Operand} {x':O} {t:TypeId} (E:cD P w D ι env a) (ho:o.op=.unOp .neg t x) (hx:cO P x=some x') (hv:dW (dc env x')=some v):pr P a o w D ι v:=by
 have hr:=dw E hx
 unfold dW at hv
 split at hv
 ·rename_i k n hb
  simp at hv;subst hv
  rw[hb]at hr
  refine⟨_,by simp only[execOp,ho,dq hr];rfl,?_⟩
  rw[Int.zero_sub];exact .eV _ _ (.int _ _)
 ·simp at hv
theorem TI {x:Operand} {x':O} {s d:TypeId} {k q:IntKind} (E:cD P w D ι env a) (ho:o.op=.convert s d x) (hs:P.underlying s=some (.int q)) (hd:P.underlying d=some (.int k)) (hx:cO P x=some x') (hv:cK k (dc env x')=some v):pr P a o w D ι v:=by
 have hr:=dw E hx
 unfold cK at hv
 split at hv
 ·rename_i k' n hb
  simp at hv;subst hv
  rw[hb]at hr
  refine⟨.int k (k.wrap n),?_,.eV _ _ (.int _ _)⟩
  simp only[execOp,ho,dq hr,convert,Sem.run_bind,run_underlying hs,run_underlying hd,Result.andThen_ok,Conv.intToInt,Sem.run_pure]
 ·simp at hv
theorem Qn {x:Operand} {x':O} {s:TypeId} {i:Nat} {fs:Array Field} {f:Field} {m:Nat} (E:cD P w D ι env a) (ho:o.op=.fieldAddr s x i) (hs:P.underlying s=some (.struct fs)) (hf:fs[i]? =some f) (hm:eC P f.type=some (m+1)) (hx:cO P x=some x')
  (hv:Hf f.offset (dc env x')=some v):pr P a o w D ι v:=by
 have hr:=dw E hx
 have go:∀b oo,a.eval x=.pointer (some ⟨b,oo,none⟩)->(execOp a.eval o).run P w=.ok (.value (.pointer (some ⟨b,oo+f.offset,none⟩))) w:=fun b oo h=>by
  simp only[execOp,ho,h,Instr.fieldAt,Sem.run_bind,run_underlying hs,Result.andThen_ok,hf,Instr.sureAddr,Sem.run_pure,fieldPlace,run_sizeOf hm,Nat.add_eq_zero_iff,Nat.one_ne_zero,and_false,if_false,Addr.add]
  split
  ·rename_i h0;simp[h0]
  ·rfl
 unfold Hf at hv
 split at hv
 ·rename_i kE i' oo hb
  simp at hv;subst hv
  rw[hb]at hr
  obtain⟨B,h,hB,hk⟩:=iN hr
  refine⟨_,go _ _ h,?_⟩
  rw[Nat.add_assoc]
  exact .ptr _ _ _ _ hB hk
 ·rename_i cs hb
  simp at hv;subst hv
  rw[hb]at hr
  obtain⟨b,oo,vs,h,h1,h2,h3,h4⟩:=lY hr
  refine⟨_,go _ _ h,.eV _ _ (.dn _ _ _ (fun j=>vs (f.offset+j)) h1 (fun a ha=>h2 a (List.mem_of_mem_drop ha)) (fun j hj=>?_) (fun j a ha=>h4 _ _ (by simpa using ha)))⟩
  rw[Nat.add_assoc]
  exact h3 _ (by simp at hj;omega)
 ·simp at hv
theorem Qo {x:Operand} {x':O} {s:TypeId} {i n:Nat} {ag:Bool} {fs:Array Field} {f:Field} (E:cD P w D ι env a) (ho:o.op=.field s x i) (hs:P.underlying s=some (.struct fs)) (hf:fs[i]? =some f) (wZ:oY P f.type=some ag) (hm:eC P f.type=some n) (hx:cO P x=some x')
  (hv:bK ag f.offset n (dc env x')=some v):pr P a o w D ι v:=by
 have hr:=dw E hx
 unfold bK at hv
 split at hv
 ·rename_i cs hb
  split at hv
  ·rename_i hl
   rw[hb]at hr
   obtain⟨vs,g,h,n1,fl,f1,r1⟩:=iY hr
   unfold part at hv
   cases ag with
   |true=>
    simp only[if_true]at hv
    split at hv
    ·simp at hv;subst hv
     refine⟨.agg (vs.extract f.offset (f.offset+n)),?_,.agg _ _ (fun j=>g (f.offset+j)) (by simp[n1];omega) (fun a ha=>fl a (List.mem_of_mem_drop (List.mem_of_mem_take ha))) (fun j hj=>?_) (fun j a ha=>?_)⟩
     ·simp only[execOp,ho,h,Instr.field,Sem.run_bind,run_underlying hs,Result.andThen_ok,hf,asAgg,Sem.run_pure,qI wZ hm]
     ·simp at hj
      rw[Array.getElem?_extract,if_pos ah];exact f1 _ ah
     ·rw[List.getElem?_take]at ha
      split at ha
      ·exact r1 _ _ (by simpa using ha)
      ·simp at ha
    ·simp at hv
   |false=>
    simp only[Bool.false_eq_true,if_false]at hv
    have pc:cs[f.offset]? =some v:=by simpa[List.head?_drop]using hv
    have ei:=(List.getElem?_eq_some_iff.1 pc).1
    exact⟨g f.offset,by simp only[execOp,ho,h,Instr.field,Sem.run_bind,run_underlying hs,Result.andThen_ok,hf,asAgg,Sem.run_pure,nE wZ (f1 _ ei)],r1 _ _ pc⟩
  ·simp at hv
 ·simp at hv
theorem WV {left:Bool} {x y:Operand} {x' y':O} {t yt:TypeId} (E:cD P w D ι env a) (ho:o.op=.binOp (if left then .shl else .shr) t x y yt) (hx:cO P x=some x') (hy:cO P y=some y') (hv:gU left (dc env x') (dc env y')=some v):pr P a o w D ι v:=by
 unfold gU at hv
 split at hv
 ·rename_i k n k' m hb uC
  split at hv
  ·simp at hv
  ·rename_i hm
   simp at hv;subst hv
   have h1:=dq (hb▸dw E hx)
   have h2:=dq (uC▸dw E hy)
   refine⟨_,?_,.eV _ _ (.int _ _)⟩
   simp only[execOp,ho,h1,h2]
   cases left<;>simp only[Bool.false_eq_true,if_false,if_true,eqGuard,Bool.not_true,Bool.not_false,binOp,Op.shift,hm,Sem.run_bind,Sem.run_pure,Result.andThen_ok]<;>rfl
 ·simp at hv
end
end Go.Proofs.YtgoljkjaameagaaGreat.V

namespace Go.Proofs.YtgoljkjaameagaaGreat.V
open Go.RowKit
variable {P:Program} {w w':World} {D D':Nat->Prop} {ι ι':Names}
theorem kY (b o j:Nat):(⟨b,o,none⟩:Addr).add j=⟨b,o+j,none⟩:=by unfold Addr.add;split<;>simp_all
section
variable {g:Rows} {hs:Nat} {env:Env} {a:Act} {o:Oper} {id:Id} {v:AV}
theorem lF {t:TypeId} {ag:Bool} {n b oo:Nat} {cs:List AV} {v:AV} {f:Nat->Value} (wZ:oY P t=some ag) (hn:eC P t=some n) (hp:part ag n cs=some v) (fl:∀a∈cs,a.cell=true)
  (hc:∀j,j<cs.length->w.cell? ⟨b,oo+j,none⟩=some (f j)) (hr:∀j a,cs[j]? =some a->dd P w D ι a (f j)):∃u,(loadVar t ⟨b,oo,none⟩).run P w=.ok u w/\dd P w D ι v u:=by
 unfold part at hp
 cases ag with
 |true=>
  simp only[if_true]at hp
  split at hp
  ·rename_i hl
   simp at hp;subst hp
   refine⟨.agg ((List.range n).map f).toArray,?_,.agg _ _ f (by simp;omega) (fun a ha=>fl a (List.mem_of_mem_take ha)) (fun j hj=>?_) (fun j a ha=>?_)⟩
   ·simp only[loadVar,Sem.run_bind,uT wZ,Result.andThen_ok,if_true,run_sizeOf hn,Sem.run_pure]
    rw[run_loadCells w _ n f (fun j hj=>by rw[kY];exact hc j ah)]
    rfl
   ·simp at hj
    have:j<n:=ah
    simp[this]
   ·rw[List.getElem?_take]at ha
    split at ha
    ·exact hr _ _ ha
    ·simp at ha
  ·simp at hp
 |false=>
  simp only[Bool.false_eq_true,if_false]at hp
  cases cs with
  |nil=>simp at hp
  |cons c r=>
   simp at hp;subst hp
   refine⟨f 0,?_,hr 0 _ rfl⟩
   simp only[loadVar,Sem.run_bind,uT wZ,Result.andThen_ok,Bool.false_eq_true,if_false]
   have:=hc 0 (by simp)
   simp at this
   rw[run_load,this]
theorem M7 {S:gR P hs D ι g w} {i:Nat} {cs:List AV} (h:rowAt g id i=some cs) (hk:∀B,ι id=some B->B.k=none):∃B r,g id=some r/\ι id=some B/\lL P w D ι B r/\r.rows[i]? =some cs/\(∀a∈cs,a.cell=true)/\∃f:Nat->Value,∀j,j<cs.length->w.cell? ⟨B.b,i*B.sz+j,none⟩=some (f j)/\∀a,cs[j]? =some a->dd P w D ι a (f j):=by
 unfold rowAt at h
 simp only[Option.bind_eq_some_iff]at h
 obtain⟨r,hr,hi⟩:=h
 obtain⟨B,hB,R,_,_⟩:=S.row id r hr
 replace R:=R.row (hk B hB)
 refine⟨B,r,hr,hB,R,hi,R.flat cs (List.mem_of_getElem? hi),fun j=>(w.cell? ⟨B.b,i*B.sz+j,none⟩).getD undef,fun j hj=>?_⟩
 obtain⟨u,hu,zw⟩:=R.at_ i j cs _ hi (List.getElem?_eq_getElem hj)
 rw[R.sz,hu]
 refine⟨by simp only[hu,Option.getD_some],fun a ha=>?_⟩
 rw[List.getElem?_eq_getElem hj]at ha
 injection ha with ha
 subst ha
 simpa only[hu,Option.getD_some]using zw
theorem TR {x:Operand} {x':O} {t:TypeId} {ag:Bool} {n:Nat} (S:gR P hs D ι g w) (E:cD P w D ι env a) (ho:o.op=.load t x) (wZ:oY P t=some ag) (hn:eC P t=some n) (hx:cO P x=some x') (hv:ld g ag n (dc env x')=some v):pr P a o w D ι v:=by
 have hr:=dw E hx
 have go:∀b oo u,a.eval x=.pointer (some ⟨b,oo,none⟩)->(loadVar t ⟨b,oo,none⟩).run P w=.ok u w->(execOp a.eval o).run P w=.ok (.value u) w:=fun b oo u h h2=>by
  simp only[execOp,ho,h,Instr.loadAt,Instr.sureAddr,Sem.run_bind,Sem.run_pure,Result.andThen_ok,h2]
 unfold ld at hv
 split at hv
 ·rename_i kE i' oo hb
  rw[hb]at hr
  obtain⟨B,h,hB,hk⟩:=iN hr
  simp only[Option.bind_eq_some_iff]at hv
  obtain⟨cs,dx,hp⟩:=hv
  obtain⟨B',r,rm,dL,R,hi,fl,f,hf⟩:=M7 (S:=S) dx (fun B2 h2=>by rw[hB]at h2;injection h2 with h2;subst h2;exact hk)
  rw[hB]at dL;injection dL with dL;subst dL
  obtain⟨u,h1,h2⟩:=lF (w:=w) (b:=B.b) (oo:=i'*B.sz+oo) (f:=fun j=>f (oo+j)) wZ hn hp (fun a ha=>fl a (List.mem_of_mem_drop ha)) (fun j hj=>by
   rw[Nat.add_assoc];exact(hf _ (by simp at hj;omega)).1) (fun j a ha=>by
   simp at ha;exact(hf _ ((List.getElem?_eq_some_iff.1 ha).1)).2 _ ha)
  exact⟨u,go _ _ _ h h1,h2⟩
 ·rename_i cs hb
  rw[hb]at hr
  obtain⟨b,oo,vs,h,h1,h2,h3,h4⟩:=lY hr
  obtain⟨u,k1,k2⟩:=lF (w:=w) (b:=b) (oo:=oo) (f:=vs) wZ hn hv h2 h3 (fun j a ha=>.eV _ _ (h4 j a ha))
  exact⟨u,go _ _ _ h k1,k2⟩
 ·simp at hv
theorem WN {x:Operand} {x':O} (E:cD P w D ι env a) (ho:o.op=.nilCheck x) (hx:cO P x=some x') (hv:dU (dc env x')=some v):pr P a o w D ι v:=by
 have hr:=dw E hx
 unfold dU at hv
 split at hv
 ·rename_i kE i' oo hb
  simp at hv;subst hv
  rw[hb]at hr
  obtain⟨B,h,hB,hk⟩:=iN hr
  exact⟨_,by simp only[execOp,ho,h];rfl,.ptr _ _ _ _ hB hk⟩
 ·rename_i cs hb
  simp at hv;subst hv
  rw[hb]at hr
  obtain⟨b,oo,vs,h,_⟩:=lY hr
  exact⟨_,by simp only[execOp,ho,h];rfl,h▸hr⟩
 ·simp at hv
theorem Qp {x i:Operand} {x' i':O} {t e:TypeId} {m:Nat} (S:gR P hs D ι g w) (E:cD P w D ι env a) (ho:o.op=.indexAddr t x i) (ht:P.underlying t=some (.slice e)) (hm:eC P e=some (m+1)) (hx:cO P x=some x') (hi:cO P i=some i')
  (hv:bL g (m+1) (dc env x') (dc env i')=some v):pr P a o w D ι v:=by
 have hr:=dw E hx
 have Gd:=dw E hi
 have go:∀b oo n c k (q:Int),a.eval x=.slice (some ⟨b,oo,none⟩) n c->a.eval i=.int k q->0<=q->q<n->(execOp a.eval o).run P w=.ok (.value (.pointer (some ⟨b,oo+q.toNat*(m+1),none⟩))) w:=fun b oo n c k q h h2 h3 h4=>by
  simp only[execOp,ho,h,h2,Instr.indexAt,asIntOf,Sem.run_bind,Sem.run_pure,run_underlying ht,Result.andThen_ok,h3,h4,and_self,if_true,run_sizeOf hm,kY]
 unfold bL at hv
 split at hv
 ·rename_i rows k q hb uC
  split at hv
  ·rename_i hq
   simp only[Option.bind_eq_some_iff]at hv
   obtain⟨cs,dx,hv⟩:=hv
   split at hv
   ·rename_i hlen
    simp at hv;subst hv
    rw[hb]at hr;rw[uC]at Gd
    have ei:=(List.getElem?_eq_some_iff.1 dx).1
    obtain⟨A,c,h,h1,h2,h3⟩:=yK hr
    rcases h3 with h3|⟨b,oo,sz,vs,rfl,hD,hl,fl,hc,hi⟩
    ·subst h3;simp at dx
    have fm:sz=m+1:=by rw[<-hlen,hl cs (List.mem_of_getElem? dx)]
    refine⟨_,go b oo _ _ k q h (dq Gd) hq ah,.eV _ _ (.dn cs b _ (vs q.toNat) hD (fl cs (List.mem_of_getElem? dx)) (fun j hj=>?_) (fun j a ha=>hi _ _ _ _ dx ha))⟩
    have:=hc q.toNat j ei (by rw[<-hl cs (List.mem_of_getElem? dx)];exact hj)
    rw[fm]at this
    rw[Nat.add_assoc];exact this
   ·simp at hv
  ·simp at hv
 ·rename_i kE off len k q hb uC
  split at hv
  ·rename_i hq
   simp only[Option.bind_eq_some_iff]at hv
   obtain⟨r,rm,hv⟩:=hv
   split at hv
   ·rename_i Aj
    simp at hv;subst hv
    rw[hb]at hr;rw[uC]at Gd
    obtain⟨oo,cap,B,h,hB,h1,h2,h3,h4,hk⟩:=ja hr
    obtain⟨B',dL,R,_,_⟩:=S.row _ _ rm
    rw[hB]at dL;injection dL with dL;subst dL
    replace R:=R.row hk
    have fm:B.sz=m+1:=R.sz.trans Aj
    refine⟨_,go _ _ _ _ k q h (dq Gd) hq.1 hq.2,?_⟩
    have EZ:oo=off*B.sz:=by rcases h2 with h2|h2<;>omega
    have:oo+q.toNat*(m+1)=(off+q.toNat)*B.sz+0:=by rw[EZ,<-fm,Nat.add_mul];rfl
    rw[this]
    exact .ptr _ _ _ _ hB hk
   ·simp at hv
  ·simp at hv
 ·simp at hv
theorem TL {x i:Operand} {x' i':O} {t e:TypeId} {m len:Nat} (E:cD P w D ι env a) (ho:o.op=.indexAddr t x i) (ht:P.underlying t=some (.array len e)) (hm:eC P e=some (m+1)) (hx:cO P x=some x') (hi:cO P i=some i')
  (hv:cL len (m+1) (dc env x') (dc env i')=some v):pr P a o w D ι v:=by
 have hr:=dw E hx
 have Gd:=dw E hi
 have go:∀b oo k (q:Int),a.eval x=.pointer (some ⟨b,oo,none⟩)->a.eval i=.int k q->0<=q->q<len->(execOp a.eval o).run P w=.ok (.value (.pointer (some ⟨b,oo+q.toNat*(m+1),none⟩))) w:=fun b oo k q h h2 h3 h4=>by
  simp only[execOp,ho,h,h2,Instr.indexAt,asIntOf,Sem.run_bind,Sem.run_pure,run_underlying ht,Instr.sureAddr,Result.andThen_ok,h3,h4,and_self,if_true,run_sizeOf hm,kY]
 unfold cL at hv
 split at hv
 ·rename_i kE r oo k q hb uC
  split at hv
  ·rename_i hq
   simp at hv;subst hv
   rw[hb]at hr;rw[uC]at Gd
   obtain⟨B,h,hB,hk⟩:=iN hr
   refine⟨_,go _ _ k q h (dq Gd) hq.1 hq.2,?_⟩
   rw[Nat.add_assoc]
   exact .ptr _ _ _ _ hB hk
  ·simp at hv
 ·rename_i cs k q hb uC
  split at hv
  ·rename_i hq
   simp at hv;subst hv
   rw[hb]at hr;rw[uC]at Gd
   obtain⟨b,oo,vs,h,h1,h2,h3,h4⟩:=lY hr
   refine⟨_,go _ _ k q h (dq Gd) hq.1 hq.2,.eV _ _ (.dn _ _ _ (fun j=>vs (q.toNat*(m+1)+j)) h1 (fun a ha=>h2 a (List.mem_of_mem_drop ha)) (fun j hj=>?_) (fun j a ha=>h4 _ _ (by simpa using ha)))⟩
   rw[Nat.add_assoc]
   exact h3 _ (by simp at hj;omega)
  ·simp at hv
 ·simp at hv
theorem TN {x i:Operand} {x' i':O} {t:TypeId} (E:cD P w D ι env a) (ho:o.op=.index t x i) (ht:P.underlying t=some .string) (hx:cO P x=some x') (hi:cO P i=some i')
  (hv:cP (dc env x') (dc env i')=some v):pr P a o w D ι v:=by
 have hr:=dw E hx
 have Gd:=dw E hi
 unfold cP at hv
 split at hv
 ·rename_i s k q hb uC
  split at hv
  ·rename_i hq
   simp only[Option.map_eq_some_iff]at hv
   obtain⟨c,hc,rfl⟩:=hv
   rw[hb]at hr;rw[uC]at Gd
   refine⟨_,?_,.eV _ _ (.int _ _)⟩
   simp only[execOp,ho,gi hr,dq Gd,Instr.index,asIntOf,Sem.run_bind,Sem.run_pure,run_underlying ht,Result.andThen_ok,hq,if_true,hc]
  ·simp at hv
 ·simp at hv
theorem TM {x i:Operand} {x' i':O} {t e:TypeId} {ag:Bool} {len n:Nat} (E:cD P w D ι env a) (ho:o.op=.index t x i) (ht:P.underlying t=some (.array len e)) (wZ:oY P e=some ag) (hn:eC P e=some n) (hx:cO P x=some x') (hi:cO P i=some i')
  (hv:cN ag len n (dc env x') (dc env i')=some v):pr P a o w D ι v:=by
 have hr:=dw E hx
 have Gd:=dw E hi
 unfold cN at hv
 split at hv
 ·rename_i cs k q hb uC
  split at hv
  ·rename_i hq
   rw[hb]at hr;rw[uC]at Gd
   obtain⟨vs,f,h,n1,fl,f1,r1⟩:=iY hr
   have go:∀u,(Go.part e vs (q.toNat*n)).run P w=.ok u w->(execOp a.eval o).run P w=.ok (.value u) w:=fun u hu=>by
    simp only[execOp,ho,h,dq Gd,Instr.index,asIntOf,Sem.run_bind,Sem.run_pure,run_underlying ht,Result.andThen_ok,hq,and_self,if_true,run_sizeOf hn,hu]
   unfold part at hv
   cases ag with
   |true=>
    simp only[if_true]at hv
    split at hv
    ·rename_i hl
     simp at hv;subst hv
     simp only[List.length_drop]at hl
     by_cases E8:n=0
     ·subst E8
      refine⟨_,go _ (qI wZ hn),.agg _ _ (fun _=>undef) (by simp) (fun a ha=>by simp at ha) (fun j hj=>by simp at hj) (fun j a ha=>by simp at ha)⟩
     refine⟨_,go _ (qI wZ hn),.agg _ _ (fun j=>f (q.toNat*n+j)) (by simp[n1];omega) (fun a ha=>fl a (List.mem_of_mem_drop (List.mem_of_mem_take ha))) (fun j hj=>?_) (fun j a ha=>?_)⟩
     ·simp at hj
      rw[Array.getElem?_extract,if_pos ah];exact f1 _ ah
     ·rw[List.getElem?_take]at ha
      split at ha
      ·exact r1 _ _ (by simpa using ha)
      ·simp at ha
    ·simp at hv
   |false=>
    simp only[Bool.false_eq_true,if_false]at hv
    have pc:cs[q.toNat*n]? =some v:=by simpa[List.head?_drop]using hv
    have ei:=(List.getElem?_eq_some_iff.1 pc).1
    exact⟨_,go _ (nE wZ (f1 _ ei)),r1 _ _ pc⟩
  ·simp at hv
 ·simp at hv
theorem Kr {x:Operand} {x':O} {i:Nat} (E:cD P w D ι env a) (ho:o.op=.extract x i) (hx:cO P x=some x') (hv:aO i (dc env x')=some v):pr P a o w D ι v:=by
 have hr:=dw E hx
 unfold aO at hv
 split at hv
 ·rename_i vs hb
  rw[hb]at hr
  obtain⟨us,f,h,h1,h2,h3⟩:=w9 hr
  have ei:=(List.getElem?_eq_some_iff.1 hv).1
  exact⟨_,by simp only[execOp,ho,h,Instr.extract,h2 _ ei];rfl,h3 _ _ hv⟩
 ·simp at hv
theorem WS {x:Operand} {x':O} {t:TypeId} {e:TypeId} {n:Nat} (E:cD P w D ι env a) (ho:o.op=.call {callee:=.builtin .len,args:= #[x],argTypes:= #[t]}) (ht:P.underlying t=some (.slice e)) (hx:cO P x=some x') (hv:dV (dc env x')=some n):pr P a o w D ι (.int .i64 n):=by
 have hr:=dw E hx
 have go:∀A c,a.eval x=.slice A n c->(execOp a.eval o).run P w=.ok (.value (.int .i64 n)) w:=fun A c h=>by
  simp only[execOp,ho,resolve,Sem.run_bind,Sem.run_pure,Result.andThen_ok,invoke,builtin,Array.map,h]
  simp[Builtin.len_,run_underlying ht,goInt,h]
 refine⟨.int .i64 n,?_,.eV _ _ (.int _ _)⟩
 unfold dV at hv
 split at hv<;>simp at hv<;>subst hv<;>rename_i hb<;>rw[hb]at hr
 ·exact go _ _ (ji hr)
 ·obtain⟨A,c,h,_⟩:=yK hr;exact go _ _ h
 ·obtain⟨oo,cap,B,h,_⟩:=ja hr;exact go _ _ h
theorem TQ {x:Operand} {x':O} {t:TypeId} (E:cD P w D ι env a) (ho:o.op=.call {callee:=.builtin .len,args:= #[x],argTypes:= #[t]}) (ht:P.underlying t=some .string) (hx:cO P x=some x') (hv:cR (dc env x')=some v):pr P a o w D ι v:=by
 have hr:=dw E hx
 unfold cR at hv
 split at hv
 ·rename_i s hb
  simp at hv;subst hv
  rw[hb]at hr
  have h:=gi hr
  refine⟨_,?_,.eV _ _ (.int _ _)⟩
  simp only[execOp,ho,resolve,Sem.run_bind,Sem.run_pure,Result.andThen_ok,invoke,builtin,Array.map,h]
  simp[Builtin.len_,run_underlying ht,goInt,h]
 ·simp at hv
theorem om {isS:Bool} {len cap h l:Nat} {lo hi:Option Operand} {Q4 sr:Option O} (E:cD P w D ι env a) (j6:sO P lo=some Q4) (E6:sO P hi=some sr) (hh:dI len (sr.map (dc env))=some h) (hl:dJ h (Q4.map (dc env))=some l) (hc:len<=cap):
  (Instr.sliceBounds isS len cap (lo.map a.eval) (hi.map a.eval) none).run P w=.ok (l,h,cap) w/\l<=h/\h<=len:=by
 have bound:∀(x:Operand) (y:O) (k:IntKind) (n:Int) (m:Nat) (c:BoundsCode),cO P x=some y->dc env y=.int k n->0<=n->n<=m->(Instr.sliceBound (a.eval x) m c).run P w=.ok n.toNat w:=fun x y k n m c hx hy h0 h1=>by
  have hr:=dw E hx
  rw[hy]at hr
  simp only[Instr.sliceBound,dq hr,asIntOf,Sem.run_bind,Sem.run_pure,Result.andThen_ok,h0,h1,and_self,if_true]
 have H:h<=len/\((hi=none/\h=len)∨∃x,hi=some x/\∀c,(Instr.sliceBound (a.eval x) cap c).run P w=.ok h w):=by
  cases hi with
  |none=>
   simp[sO]at E6;subst E6
   simp[dI]at hh;subst hh
   exact⟨Nat.le_refl _,.inl ⟨rfl,rfl⟩⟩
  |some x=>
   simp only[sO,Option.map_eq_some_iff]at E6
   obtain⟨y,hy,rfl⟩:=E6
   simp only[Option.map_some,dI]at hh
   split at hh
   ·rename_i e;cases e
   ·rename_i k n e
    injection e with e
    split at hh
    ·rename_i hn
     simp at hh;subst hh
     exact⟨ah,.inr ⟨x,rfl,fun c=>bound x y k n _ _ hy e hn.1 ah⟩⟩
    ·simp at hh
   ·simp at hh
 have L:l<=h/\((lo=none/\l=0)∨∃x,lo=some x/\∀c,(Instr.sliceBound (a.eval x) h c).run P w=.ok l w):=by
  cases lo with
  |none=>
   simp[sO]at j6;subst j6
   simp[dJ]at hl;subst hl
   exact⟨Nat.zero_le _,.inl ⟨rfl,rfl⟩⟩
  |some x=>
   simp only[sO,Option.map_eq_some_iff]at j6
   obtain⟨y,hy,rfl⟩:=j6
   simp only[Option.map_some,dJ]at hl
   split at hl
   ·rename_i e;cases e
   ·rename_i k n e
    injection e with e
    split at hl
    ·rename_i hn
     simp at hl;subst hl
     exact⟨ah,.inr ⟨x,rfl,fun c=>bound x y k n h _ hy e hn.1 hn.2⟩⟩
    ·simp at hl
   ·simp at hl
 refine⟨?_,L.1,H.1⟩
 unfold Instr.sliceBounds
 rcases H.2 with⟨rfl,rfl⟩|⟨x,rfl,hx⟩<;>rcases L.2 with⟨rfl,rfl⟩|⟨y,rfl,hy⟩<;>
  simp only[Option.map_none,Option.map_some,Sem.run_bind,Sem.run_pure,Result.andThen_ok, *]
theorem Qq {x:Operand} {x':O} {lo hi:Option Operand} {Q4 sr:Option O} {t e:TypeId} {m:Nat} (S:gR P hs D ι g w) (E:cD P w D ι env a) (ho:o.op=.slice t x lo hi none) (ht:P.underlying t=some (.slice e)) (hm:eC P e=some m) (hx:cO P x=some x') (j6:sO P lo=some Q4) (E6:sO P hi=some sr)
  (hv:bP g m (dc env x') (Q4.map (dc env)) (sr.map (dc env))=some v):pr P a o w D ι v:=by
 have hr:=dw E hx
 have go:∀A len cap l h,a.eval x=.slice A len cap->(Instr.sliceBounds true len cap (lo.map a.eval) (hi.map a.eval) none).run P w=.ok (l,h,cap) w->(execOp a.eval o).run P w=.ok (.value (.slice (if cap=l then A else A.map (·.add (l*m))) (h-l) (cap-l))) w:=fun A len cap l h h1 h2=>by
  simp only[execOp,ho,h1,Instr.sliceAt,Instr.slice,Sem.run_bind,Sem.run_pure,run_underlying ht,Result.andThen_ok,Option.map_none,h2,run_sizeOf hm]
 unfold bP at hv
 split at hv
 ·rename_i hb
  rw[hb]at hr
  simp only[Option.bind_eq_some_iff,Option.map_eq_some_iff]at hv
  obtain⟨h,hh,l,hl,rfl⟩:=hv
  obtain⟨q,q1,q2⟩:=om (w:=w) (isS:=true) (cap:=0) E j6 E6 hh hl (Nat.le_refl _)
  have h0:h=0:=ah
  have l0:l=0:=ah
  subst h0;subst l0
  refine⟨_,go _ _ _ _ _ (ji hr) q,?_⟩
  simp;exact .eV _ _ .bI
 ·rename_i rows hb
  rw[hb]at hr
  simp only[Option.bind_eq_some_iff,Option.map_eq_some_iff]at hv
  obtain⟨h,hh,l,hl,hv⟩:=hv
  split at hv
  ·rename_i dP
   simp at hv;subst hv
   obtain⟨A,c,he,c1,c2,h3⟩:=yK hr
   obtain⟨q,q1,q2⟩:=om (w:=w) (isS:=true) (cap:=c) E j6 E6 hh hl c1
   refine⟨_,go _ _ _ _ _ he q,.eV _ _ ?_⟩
   have hlen:((rows.drop l).take (h-l)).length=h-l:=by simp;omega
   by_cases hz:h-l=0
   ·have:(rows.drop l).take (h-l)=[]:=by rw[hz];simp
    rw[this,hz]
    exact .CJ _ _ ah
   ·rcases h3 with h3|⟨b,oo,sz,vs,rfl,hD,N5,fl,hc,hi⟩
    ·subst h3;simp at q2;omega
    rw[if_neg ah]
    simp only[Option.map_some,kY]
    have DL:sz=m:=by
     have ei:l<rows.length:=ah
     have:=dP rows[l] (List.getElem_mem ei)
     rw[<-this,N5 _ (List.getElem_mem ei)]
    subst DL
    refine .sl _ b _ _ _ sz (fun i j=>vs (l+i) j) hlen ah ah hD (fun cs dx=>N5 cs (List.mem_of_mem_drop (List.mem_of_mem_take dx))) (fun cs dx=>fl cs (List.mem_of_mem_drop (List.mem_of_mem_take dx))) (fun i j hi hj=>?_) (fun i j cs a dx ha=>?_)
    ·rw[<-hc (l+i) j ah hj,Nat.add_mul]
     congr 2;omega
    ·rw[List.getElem?_take]at dx
     split at dx
     ·exact hi _ _ _ _ (by simpa using dx) ha
     ·simp at dx
  ·simp at hv
 ·rename_i kE off len hb
  rw[hb]at hr
  simp only[Option.bind_eq_some_iff,Option.map_eq_some_iff]at hv
  obtain⟨r,rm,h,hh,l,hl,hv⟩:=hv
  split at hv
  ·rename_i Aj
   simp at hv;subst hv
   obtain⟨oo,cap,B,he,hB,h1,h2,h3,h4,hk⟩:=ja hr
   obtain⟨B',dL,R,_,_⟩:=S.row _ _ rm
   rw[hB]at dL;injection dL with dL;subst dL
   replace R:=R.row hk
   have fm:B.sz=m:=R.sz.trans Aj
   obtain⟨q,q1,q2⟩:=om (w:=w) (isS:=true) (cap:=cap) E j6 E6 hh hl h1
   refine⟨_,go _ _ _ _ _ he q,?_⟩
   have e1:(off+l+(cap-l))*B.sz<=B.C:=by rw[show off+l+(cap-l)=off+cap by omega];exact h3
   by_cases mO:cap=l
   ·rw[if_pos mO]
    exact .own _ _ _ _ _ B hB hk ah (.inl ah) e1 ah
   ·rw[if_neg mO]
    simp only[Option.map_some,kY]
    have EZ:oo=off*B.sz:=by rcases h2 with h2|h2<;>omega
    exact .own _ _ _ _ _ B hB hk ah (.inr (by rw[EZ,fm,Nat.add_mul])) e1 ah
  ·simp at hv
 ·simp at hv
theorem NN {x:Operand} {x':O} {lo hi:Option Operand} {Q4 sr:Option O} {t:TypeId} (E:cD P w D ι env a) (ho:o.op=.slice t x lo hi none) (ht:P.underlying t=some .string) (hx:cO P x=some x') (j6:sO P lo=some Q4) (E6:sO P hi=some sr)
  (hv:bc (dc env x') (Q4.map (dc env)) (sr.map (dc env))=some v):pr P a o w D ι v:=by
 have hr:=dw E hx
 unfold bc at hv
 split at hv
 ·rename_i s hb
  rw[hb]at hr
  simp only[Option.bind_eq_some_iff,Option.map_eq_some_iff]at hv
  obtain⟨h,hh,l,hl,rfl⟩:=hv
  obtain⟨q,_,_⟩:=om (w:=w) (isS:=false) E j6 E6 hh hl (Nat.le_refl _)
  refine⟨_,?_,.eV _ _ (.str _)⟩
  simp only[execOp,ho,gi hr,Instr.sliceAt,Instr.slice,Sem.run_bind,Sem.run_pure,run_underlying ht,Result.andThen_ok,Option.map_none,Option.isSome_none,Bool.false_eq_true,if_false,q]
 ·simp at hv
theorem GI {xs:List Operand} {ys:List O} (E:cD P w D ι env a) (h:xs.mapM (cO P)=some ys):(xs.map a.eval).length=ys.length/\∀j y,ys[j]? =some y->dd P w D ι (dc env y) ((xs.map a.eval).getD j undef):=by
 induction xs generalizing ys with
 |nil=>simp at h;subst h;simp
 |cons x r ih=>
  simp only[List.mapM_cons,Option.bind_eq_bind,Option.bind_eq_some_iff]at h
  obtain⟨c,hc,rl,dx,h⟩:=h
  simp at h;subst h
  obtain⟨h1,h2⟩:=ih dx
  refine⟨by simpa using h1,fun j d hd=>?_⟩
  cases j with
  |zero=>simp at hd ⊢;subst hd;exact dw E hc
  |succ j=>simp at hd ⊢;simpa using h2 j d hd
theorem TV {f:Nat} {first dh:Array Operand} {C9:List O} (E:cD P w D ι env a) (ho:o.op=.makeFunc (.func f) first dh) (hf:first= #[]) (hc:gz P f=true) (hx:dh.toList.mapM (cO P)=some C9):pr P a o w D ι (.fn f (C9.map (dc env))):=by
 subst hf
 obtain⟨h1,h2⟩:=GI E hx
 refine⟨.func (.func f) #[] (dh.map a.eval),by simp only[execOp,ho,Instr.makeFunc,Sem.run_bind,Sem.run_pure,Result.andThen_ok];simp,.fn _ _ _ (fun j=>(dh.toList.map a.eval).getD j undef) hc (by simpa using h1) (fun j hj=>?_) (fun j x Ux=>?_)⟩
 ·simp at hj h1
  have:j<dh.size:=ah
  simp[this]
 ·simp only[List.getElem?_map,Option.map_eq_some_iff]at Ux
  obtain⟨y,hy,rfl⟩:=Ux
  exact h2 j y hy
theorem TW {f:Nat} {first dh:Array Operand} {C9:List O} (E:cD P w D ι env a) (ho:o.op=.makeFunc (.func f) first dh) (hf:dh= #[]) (hc:gz P f=true) (hx:first.toList.mapM (cO P)=some C9):pr P a o w D ι (.vU f (C9.map (dc env))):=by
 subst hf
 obtain⟨h1,h2⟩:=GI E hx
 refine⟨.func (.func f) (first.map a.eval) #[],by simp only[execOp,ho,Instr.makeFunc,Sem.run_bind,Sem.run_pure,Result.andThen_ok];simp,.vU _ _ _ (fun j=>(first.toList.map a.eval).getD j undef) hc (by simpa using h1) (fun j hj=>?_) (fun j x Ux=>?_)⟩
 ·simp at hj h1
  have:j<first.size:=ah
  simp[this]
 ·simp only[List.getElem?_map,Option.map_eq_some_iff]at Ux
  obtain⟨y,hy,rfl⟩:=Ux
  exact h2 j y hy
end
end Go.Proofs.YtgoljkjaameagaaGreat.V

namespace Go.Proofs.YtgoljkjaameagaaGreat.V
open Go.RowKit
variable {P:Program} {w w':World} {D D':Nat->Prop} {ι ι':Names}
def Mk (P:Program) (a:Act) (o:Oper) (w:World) (D:Nat->Prop) (ι:Names) (id:Id) (v:AV) (r:Row):Prop:=
 ∃u cells T,(execOp a.eval o).run P w=.ok (.value u) (w.alloc (.cells cells T))/\r.w=true/\r.rows.length*r.sz<=cells.size/\(∀cs∈r.rows,cs.length=r.sz)/\(∀cs∈r.rows,∀a∈cs,a.cell=true)/\
  (∀i j cs a,r.rows[i]? =some cs->cs[j]? =some a->∃x,cells[i*r.sz+j]? =some x/\dd P w D ι a x)/\∀ι':Names,ι' id=some ⟨w.heap.size,r.sz,cells.size,none⟩->dd P w D ι' v u
section
variable {g:Rows} {hs:Nat} {env:Env} {a:Act} {o:Oper} {id:Id} {v:AV}
theorem kL {vs:List Value} {cs:List K} (h:vs.mapM Jo=some cs):fG P w D ι (cs.map K.av) vs.toArray:=by
 obtain⟨h1,h2⟩:=tn h
 refine⟨by simp[h1],fun j a ha=>?_⟩
 simp only[List.getElem?_map,Option.map_eq_some_iff]at ha
 obtain⟨c,hc,rfl⟩:=ha
 exact⟨c.val,by simpa using h2 j c hc,yI c⟩
theorem kD {t:TypeId} {z:List K} (h:j9 P t=some z):∃i v,P.info? t=some i/\i.zero=some v/\v.cells.size=i.size/\v.cells.toList.mapM Jo=some z/\z.length=i.size:=by
 unfold j9 at h
 split at h
 ·rename_i i hi
  split at h
  ·rename_i v hv
   split at h
   ·rename_i hs
    exact⟨i,v,hi,hv,hs,h,by rw[(tn h).1];simpa using hs⟩
   ·simp at h
  ·simp at h
 ·simp at h
theorem H0 {cs:List AV} {cells:Array Value} (h:fG P w D ι cs cells):∀i j c a,[cs][i]? =some c->c[j]? =some a->∃x,cells[i*cs.length+j]? =some x/\dd P w D ι a x:=by
 intro i j c a hi hj
 cases i with
 |zero=>simp at hi;subst hi;simpa using h.2 j a hj
 |succ i=>simp at hi
theorem Wm {t:TypeId} {z:List K} (ho:o.op=.alloc t) (hz:j9 P t=some z):Mk P a o w D ι id (.ptr id 0 0) ⟨true,z.length,[z.map K.av]⟩:=by
 obtain⟨i,v,hi,hv,hs,hm,hl⟩:=kD hz
 have hk:=kL (P:=P) (w:=w) (D:=D) (ι:=ι) hm
 refine⟨.pointer (some ⟨w.heap.size,0,none⟩),v.cells,t,?_,rfl,?_,?_,?_,?_,?_⟩
 ·simp only[execOp,ho,Instr.alloc,zeroValue,typeInfo,Sem.run_bind]
  simp[hi,hv,newVar,newRow]
 ·simp[hl,hs]
 ·intro cs dx;simp at dx;subst dx;simp
 ·intro cs dx x hx;simp at dx;subst dx
  obtain⟨c,_,rfl⟩:=List.mem_map.1 hx;exact c.nQ
 ·have:=H0 hk;simpa using this
 ·intro ι' hι
  have:=dd.ptr (P:=P) (w:=w) (D:=D) (ι:=ι') id 0 0 _ hι rfl
  simpa using this
theorem si {x:AV} {u:Value} (h:dd P w D ι x u) (hc:x.cells.all AV.cell=true):fG P w D ι x.cells u.cells:=by
 obtain⟨h1,f,h2,h3⟩:=h.cells hc
 exact⟨h1,fun j a ha=>⟨f j,h2 j (List.getElem?_eq_some_iff.1 ha).1,h3 j a ha⟩⟩
theorem Wk {t:TypeId} {x:Operand} {x':O} {cs:List AV} (E:cD P w D ι env a) (ho:o.op=.box t x) (hx:cO P x=some x') (hb:cI (dc env x')=some cs):Mk P a o w D ι id (.ptr id 0 0) ⟨true,cs.length,[cs]⟩:=by
 have hr:=dw E hx
 unfold cI at hb
 split at hb
 ·rename_i dP
  simp at hb;subst hb
  have hk:=si hr dP
  refine⟨.pointer (some ⟨w.heap.size,0,none⟩),(a.eval x).cells,t,?_,rfl,?_,?_,?_,?_,?_⟩
  ·simp only[execOp,ho,Instr.box,Sem.run_bind]
   simp[newVar,newRow]
  ·simp[hk.1]
  ·intro cs dx;simp at dx;subst dx;rfl
  ·intro cs dx y hy;simp at dx;subst dx
   exact List.all_eq_true.1 dP y hy
  ·exact H0 hk
  ·intro ι' hι
   have:=dd.ptr (P:=P) (w:=w) (D:=D) (ι:=ι') id 0 0 _ hι rfl
   simpa using this
 ·simp at hb
theorem foldl_set:∀(vs:List Value) (n off:Nat) (cells:Array Value),off+n+vs.length<=cells.size->((vs.zipIdx n).foldl (fun cs (x:Value×Nat)=>cs.setIfInBounds (off+x.2) x.1) cells).size=cells.size/\
  ∀k,((vs.zipIdx n).foldl (fun cs (x:Value×Nat)=>cs.setIfInBounds (off+x.2) x.1) cells)[k]? =if off+n<=k/\k<off+n+vs.length then vs[k-(off+n)]? else cells[k]?
 |[],n,off,cells,_=>⟨rfl,fun k=>by simp;intro h1 h2;omega⟩
 |v::r,n,off,cells,h=>by
  simp only[List.length_cons]at h
  obtain⟨h1,h2⟩:=foldl_set r (n+1) off (cells.setIfInBounds (off+n) v) (by simp;omega)
  simp only[List.zipIdx_cons,List.foldl_cons]
  refine⟨by rw[h1];simp,fun k=>?_⟩
  rw[h2 k]
  simp only[List.length_cons]
  by_cases hk:k=off+n
  ·subst hk
   rw[if_neg ah,if_pos ah]
   simp[show off+n<cells.size by omega]
  ·by_cases uE:off+n<=k/\k<off+n+(r.length+1)
   ·rw[if_pos ah,if_pos uE]
    have:k-(off+n)=(k-(off+(n+1)))+1:=ah
    rw[this,List.getElem?_cons_succ]
   ·rw[if_neg ah,if_neg uE,Array.getElem?_setIfInBounds_ne ah]
theorem xI (place:Nat->Option (Nat×Nat)):∀(ps:List (Nat×Value)) (qs:List (Nat×Nat×AV)) (cells:Array Value) (cs res:List AV),fG P w D ι cs cells->(∀a∈cs,a.cell=true)->ps.length=qs.length->
  (∀(k:Nat) i u o' n x,ps[k]? =some (i,u)->qs[k]? =some (o',n,x)->place i=some (o',n)/\dd P w D ι x u)->cC cs qs=some res->∃jL,Instr.fill place cells ps=some jL/\fG P w D ι res jL/\(∀a∈res,a.cell=true)/\res.length=cs.length:=by
 intro ps
 induction ps with
 |nil=>
  intro qs cells cs res hR hf hl _ hv
  cases qs with
  |nil=>simp[cC]at hv;subst hv;exact⟨cells,rfl,hR,hf,rfl⟩
  |cons q r=>simp at hl
 |cons p ps ih=>
  intro qs cells cs res hR hf hl hp hv
  cases qs with
  |nil=>simp at hl
  |cons q qs=>
   obtain⟨i,u⟩:=p
   obtain⟨oo,n,x⟩:=q
   obtain⟨mj,hr⟩:=hp 0 i u oo n x rfl rfl
   unfold cC at hv
   split at hv
   ·rename_i hc
    obtain⟨c1,c2,c3⟩:=hc
    have hk:=si hr c3
    have Z6:u.cells.size=n:=by rw[hk.1,c1]
    have dx:cells.size=cs.length:=hR.1
    unfold Instr.fill
    simp only[mj]
    rw[if_neg (by rw[Z6,dx];simp;omega)]
    obtain⟨s1,s2⟩:=foldl_set u.cells.toList 0 oo cells (by simp;omega)
    have e0:(u.cells.zipIdx.foldl (fun cs (x:Value×Nat)=>cs.setIfInBounds (oo+x.2) x.1) cells)=(u.cells.toList.zipIdx 0).foldl (fun cs (x:Value×Nat)=>cs.setIfInBounds (oo+x.2) x.1) cells:=by
     rw[<-Array.foldl_toList];simp
    have wI:=ih qs (u.cells.zipIdx.foldl (fun cs (x:Value×Nat)=>cs.setIfInBounds (oo+x.2) x.1) cells) (cs.take oo++x.cells++cs.drop (oo+n)) res ?_ ?_ (by simpa using hl) (fun k i u o' n x h1 h2=>hp (k+1) i u o' n x (by simpa using h1) (by simpa using h2)) hv
    ·obtain⟨jL,h1,h2,h3,h4⟩:=wI
     refine⟨jL,h1,h2,h3,?_⟩
     rw[h4];simp;omega
    ·rw[e0]
     refine⟨by rw[s1,dx];simp;omega,fun j a ha=>?_⟩
     rw[s2 j]
     simp only[Nat.add_zero,Array.length_toList]
     by_cases hj:oo<=j/\j<oo+u.cells.size
     ·rw[if_pos hj]
      rw[List.append_assoc,List.getElem?_append_right (by simp;omega),List.getElem?_append_left (by simp;omega)]at ha
      simp only[List.length_take]at ha
      rw[show min oo cs.length=oo by omega]at ha
      simpa using hk.2 _ _ ha
     ·rw[if_neg hj]
      by_cases Ky:j<oo
      ·rw[List.append_assoc,List.getElem?_append_left (by simp;omega),List.getElem?_take,if_pos Ky]at ha
       exact hR.2 _ _ ha
      ·rw[List.getElem?_append_right (by simp;omega)]at ha
       simp only[List.length_append,List.length_take,List.getElem?_drop]at ha
       rw[show oo+n+(j-(min oo cs.length+x.cells.length))=j by omega]at ha
       exact hR.2 _ _ ha
    ·intro b hb
     rcases List.mem_append.1 hb with hb|hb
     ·rcases List.mem_append.1 hb with hb|hb
      ·exact hf b (List.mem_of_mem_take hb)
      ·exact List.all_eq_true.1 c3 b hb
     ·exact hf b (List.mem_of_mem_drop hb)
   ·simp at hv
theorem zo {fs:List Field} (h:∀f∈fs,(P.info? f.type).isSome=true):∃B3,fs.mapM (fun f=>(P.info? f.type).map fun i=>(f.offset,i.size))=some B3/\∀(i:Nat) (f:Field) (n:Nat),fs[i]? =some f->eC P f.type=some n->B3[i]? =some (f.offset,n):=by
 induction fs with
 |nil=>exact⟨[],rfl,fun i f n h=>by simp at h⟩
 |cons f r ih=>
  obtain⟨q,h1,h2⟩:=ih (fun x hx=>h x (List.mem_cons_of_mem _ hx))
  obtain⟨i,hi⟩:=Option.isSome_iff_exists.1 (h f (by simp))
  refine⟨(f.offset,i.size)::q,by simp[hi,h1],fun k x n hk hn=>?_⟩
  cases k with
  |zero=>simp at hk;subst hk;simp[eC,hi]at hn;subst hn;rfl
  |succ k=>simp at hk ⊢;exact h2 k x n hk hn
theorem rK {ps:List (Nat×Operand)} {l:List (Nat×O)} (E:cD P w D ι env a) (h:ps.mapM (fun(x:Nat×Operand)=>(cO P x.2).map (x.1,·))=some l):l.length=ps.length/\∀(k i:Nat) (y:O),l[k]? =some (i,y)->∃x,ps[k]? =some (i,x)/\cO P x=some y:=by
 induction ps generalizing l with
 |nil=>simp at h;subst h;simp
 |cons p r ih=>
  simp only[List.mapM_cons,Option.bind_eq_bind,Option.bind_eq_some_iff]at h
  obtain⟨c,hc,rl,dx,h⟩:=h
  simp at h;subst h
  obtain⟨h1,h2⟩:=ih dx
  simp only[Option.map_eq_some_iff]at hc
  obtain⟨y,hy,rfl⟩:=hc
  refine⟨by simp[h1],fun k i z hk=>?_⟩
  cases k with
  |zero=>simp at hk;obtain⟨rfl,rfl⟩:=hk;exact⟨p.2,rfl,hy⟩
  |succ k=>simp at hk ⊢;exact h2 k i z hk
theorem FA {fs:Array Field} {l:List (Nat×O)} {q:List (Nat×Nat×O)} (h:um P fs l=some q):q.length=l.length/\∀(k oo n:Nat) (y:O),q[k]? =some (oo,n,y)->∃(i:Nat) (f:Field),l[k]? =some (i,y)/\fs[i]? =some f/\f.offset=oo/\eC P f.type=some n:=by
 induction l generalizing q with
 |nil=>simp[um]at h;subst h;simp
 |cons p r ih=>
  obtain⟨i,x⟩:=p
  unfold um at h
  split at h
  ·rename_i f hf
   split at h
   ·rename_i n hn
    simp only[Option.map_eq_some_iff]at h
    obtain⟨q',Pd,rfl⟩:=h
    obtain⟨h1,h2⟩:=ih Pd
    refine⟨by simp[h1],fun k oo m y hk=>?_⟩
    cases k with
    |zero=>simp at hk;obtain⟨rfl,rfl,rfl⟩:=hk;exact⟨i,f,rfl,hf,rfl,hn⟩
    |succ k=>simp only[List.getElem?_cons_succ]at hk ⊢;exact h2 k oo m y hk
   ·simp at h
  ·simp at h
theorem fG.agg {xs:List AV} {vs:Array Value} (h:fG P w D ι xs vs) (hf:∀a∈xs,a.cell=true):dd P w D ι (.agg xs) (.agg vs):=
 .agg xs vs (fun j=>vs.getD j undef) h.1 hf (fun j hj=>by
  have:j<vs.size:=by rw[h.1];exact hj
  simp[this]) (fun j a ha=>by
  obtain⟨u,h1,h2⟩:=h.2 j a ha
  simpa[Array.getD_eq_getD_getElem?,h1]using h2)
theorem Qm {t:TypeId} {ps:Array (Nat×Operand)} {fs:Array Field} {z:List K} {l:List (Nat×O)} {q:List (Nat×Nat×O)} {cs:List AV} (E:cD P w D ι env a) (ho:o.op=.build t ps) (ht:P.underlying t=some (.struct fs)) (hz:j9 P t=some z) (hl:ur P ps=some l)
  (s6:∀f∈fs.toList,(P.info? f.type).isSome=true) (hq:um P fs l=some q) (hv:cC (z.map K.av) (q.map fun(o,n,x)=>(o,n,dc env x))=some cs):pr P a o w D ι (.agg cs):=by
 obtain⟨it,zv,hi,xV,hs,hm,HS⟩:=kD hz
 obtain⟨B3,mj,ZS⟩:=zo s6
 have hk:=kL (P:=P) (w:=w) (D:=D) (ι:=ι) hm
 obtain⟨n1,r1⟩:=rK E hl
 obtain⟨n2,r2⟩:=FA hq
 obtain⟨jL,h1,h2,h3,_⟩:=xI (P:=P) (w:=w) (D:=D) (ι:=ι) (B3.toArray[·]?) (ps.toList.map fun(i,x)=>(i,a.eval x)) (q.map fun(o,n,x)=>(o,n,dc env x)) zv.cells _ cs (by simpa using hk)
  (fun b hb=>by obtain⟨c,_,rfl⟩:=List.mem_map.1 hb;exact c.nQ) (by simp[n2,n1]) (fun k i u o' n x sw uE=>by
   simp only[List.getElem?_map,Option.map_eq_some_iff]at sw uE
   obtain⟨⟨i',x'⟩,hp,e1⟩:=sw
   obtain⟨⟨o2,n',y⟩,Pd,e2⟩:=uE
   simp only[Prod.mk.injEq]at e1 e2
   obtain⟨rfl,rfl⟩:=e1
   obtain⟨rfl,rfl,rfl⟩:=e2
   obtain⟨i2,f,LW,hf,rfl,hn⟩:=r2 _ _ _ _ Pd
   obtain⟨x2,zy,hc⟩:=r1 _ _ _ LW
   rw[hp]at zy
   simp only[Option.some.injEq,Prod.mk.injEq]at zy
   obtain⟨rfl,rfl⟩:=zy
   exact⟨by simpa using ZS _ _ _ (by simpa using hf) hn,dw E hc⟩) hv
 refine⟨.agg jL,?_,h2.agg h3⟩
 have hb:P.built t ((ps.map fun(i,x)=>(i,a.eval x)).toList)=some jL:=by
  unfold Program.built
  simp only[hi,ht,xV,mj]
  simpa using h1
 simp only[execOp,ho,Sem.run_bind,run_build w t _ _ hb,Result.andThen_ok,Sem.run_pure]
theorem NM {t e:TypeId} {len n:Nat} {ps:Array (Nat×Operand)} {z:List K} {l:List (Nat×O)} {cs:List AV} (E:cD P w D ι env a) (ho:o.op=.build t ps) (ht:P.underlying t=some (.array len e)) (hz:j9 P t=some z) (hl:ur P ps=some l) (hn:eC P e=some n)
  (hv:cC (z.map K.av) ((l.map fun(x:Nat×O)=>(x.1*n,n,x.2)).map fun(o,n,x)=>(o,n,dc env x))=some cs):pr P a o w D ι (.agg cs):=by
 obtain⟨it,zv,hi,xV,hs,hm,HS⟩:=kD hz
 have hk:=kL (P:=P) (w:=w) (D:=D) (ι:=ι) hm
 obtain⟨n1,r1⟩:=rK E hl
 obtain⟨ie,F8,fm⟩:∃ie,P.info? e=some ie/\ie.size=n:=by simpa[eC]using hn
 obtain⟨jL,h1,h2,h3,_⟩:=xI (P:=P) (w:=w) (D:=D) (ι:=ι) (fun i=>some (i*ie.size,ie.size)) (ps.toList.map fun(i,x)=>(i,a.eval x)) ((l.map fun(x:Nat×O)=>(x.1*n,n,x.2)).map fun(o,n,x)=>(o,n,dc env x)) zv.cells _ cs (by simpa using hk)
  (fun b hb=>by obtain⟨c,_,rfl⟩:=List.mem_map.1 hb;exact c.nQ) (by simp[n1]) (fun k i u o' n' x sw uE=>by
   simp only[List.getElem?_map,Option.map_eq_some_iff]at sw uE
   obtain⟨⟨i',x'⟩,hp,e1⟩:=sw
   obtain⟨⟨o2,n2,y⟩,⟨⟨i2,y2⟩,LW,e3⟩,e2⟩:=uE
   simp only[Prod.mk.injEq]at e1 e2 e3
   obtain⟨rfl,rfl⟩:=e1
   obtain⟨rfl,rfl,rfl⟩:=e2
   obtain⟨rfl,rfl,rfl⟩:=e3
   obtain⟨x2,zy,hc⟩:=r1 _ _ _ LW
   rw[hp]at zy
   simp only[Option.some.injEq,Prod.mk.injEq]at zy
   obtain⟨rfl,rfl⟩:=zy
   exact⟨by rw[fm],dw E hc⟩) hv
 refine⟨.agg jL,?_,h2.agg h3⟩
 have hb:P.built t ((ps.map fun(i,x)=>(i,a.eval x)).toList)=some jL:=by
  unfold Program.built
  simp only[hi,ht,xV,F8]
  simpa using h1
 simp only[execOp,ho,Sem.run_bind,run_build w t _ _ hb,Result.andThen_ok,Sem.run_pure]
theorem xH:∀(vs:List AV) (sz i:Nat) (rs:List (List AV)) (cs:List AV),0<sz->cs.length=(i+vs.length)*sz->rowsOf sz vs=some rs->
  cC cs ((vs.zipIdx i).map fun(v,j)=>(j*sz,sz,v))=some (cs.take (i*sz)++rs.flatten)/\rs.length=vs.length/\(∀c∈rs,c.length=sz)/\∀c∈rs,∀x∈c,x.cell=true
 |[],sz,i,rs,cs,_,hl,h=>by
  simp[rowsOf]at h;subst h
  simp at hl
  simp[cC,List.take_of_length_le (show cs.length<=i*sz by omega)]
 |v::r,sz,i,rs,cs,fm,hl,h=>by
  simp only[rowsOf,Option.bind_eq_some_iff,Option.map_eq_some_iff]at h
  obtain⟨c,hc,rs',Aj,rfl⟩:=h
  unfold rowOf at hc
  split at hc
  ·rename_i By
   simp at hc;subst hc
   obtain⟨qV,F1⟩:=By
   simp only[List.length_cons]at hl
   have hmul:(i+(r.length+1))*sz=i*sz+sz+r.length*sz:=by rw[Nat.add_mul,Nat.add_mul];omega
   have ih:=xH r sz (i+1) rs' (cs.take (i*sz)++v.cells++cs.drop (i*sz+sz)) fm (by
    simp[qV];rw[Nat.add_mul,Nat.add_mul];omega) Aj
   refine⟨?_,by simp[ih.2.1],?_,?_⟩
   ·simp only[List.zipIdx_cons,List.map_cons,cC]
    rw[if_pos ⟨qV,ah,F1⟩,ih.1]
    congr 1
    rw[List.flatten_cons,<-List.append_assoc]
    congr 1
    rw[Nat.add_mul,Nat.one_mul,List.take_append_of_le_length (by simp[qV];omega)]
    rw[List.take_of_length_le (by simp[qV];omega)]
   ·intro c' k7;rcases List.mem_cons.1 k7 with rfl|k7
    ·exact qV
    ·exact ih.2.2.1 c' k7
   ·intro c' k7;rcases List.mem_cons.1 k7 with rfl|k7
    ·exact List.all_eq_true.1 F1
    ·exact ih.2.2.2 c' k7
  ·simp at hc
theorem flat_get {α:Type} {pH:List (List α)} {sz:Nat} (h:∀cs∈pH,cs.length=sz) {i j:Nat} {cs:List α} {a:α} (hi:pH[i]? =some cs) (hj:cs[j]? =some a):pH.flatten[i*sz+j]? =some a:=by
 induction pH generalizing i with
 |nil=>simp at hi
 |cons c r ih=>
  have hc:c.length=sz:=h c (by simp)
  cases i with
  |zero=>
   simp at hi;subst hi
   have ei:=(List.getElem?_eq_some_iff.1 hj).1
   rw[List.flatten_cons,List.getElem?_append_left ah];simpa using hj
  |succ i=>
   rw[List.flatten_cons,List.getElem?_append_right (by rw[hc,Nat.succ_mul];omega)]
   have:(i+1)*sz+j-c.length=i*sz+j:=by rw[hc,Nat.succ_mul];omega
   rw[this]
   exact ih (fun cs dx=>h cs (List.mem_cons_of_mem _ dx)) (by simpa using hi)
theorem Lx {α:Type} {pH:List (List α)} {sz:Nat} (h:∀cs∈pH,cs.length=sz):pH.flatten.length=pH.length*sz:=by
 induction pH with
 |nil=>simp
 |cons c r ih=>
  rw[List.flatten_cons,List.length_append,h c (by simp),ih (fun cs dx=>h cs (List.mem_cons_of_mem _ dx)),List.length_cons,Nat.succ_mul];omega
theorem qo {zv:Value} {z:List K} {n:Nat} (hm:zv.cells.toList.mapM Jo=some z) (jO:0<z.length):∀k,k<n->∃c,z[k % z.length]? =some c/\((Array.range n).map (zv.cells[· % zv.cells.size]!))[k]? =some c.val:=by
 intro k hk
 obtain⟨h1,h2⟩:=tn hm
 have fm:zv.cells.size=z.length:=by simpa using h1.symm
 have ei:k % z.length<z.length:=Nat.mod_lt _ jO
 refine⟨z[k % z.length],List.getElem?_eq_getElem ei,?_⟩
 have h3:=h2 _ _ (List.getElem?_eq_getElem ei)
 simp only[Array.getElem?_toList]at h3
 have DK:k % z.length<zv.cells.size:=by rw[fm];exact ei
 rw[Array.getElem?_map,Array.getElem?_range,if_pos hk]
 simp only[Option.map_some]
 rw[fm,getElem!_pos zv.cells (k % z.length) DK]
 rw[Array.getElem?_eq_getElem DK]at h3
 exact h3
theorem Mu {t e:TypeId} {len sz:Nat} {ps:Array (Nat×Operand)} {z:List K} {l:List (Nat×O)} {rs:List (List AV)} (E:cD P w D ι env a) (ho:o.op=.buildSlice t len ps) (ht:P.underlying t=some (.slice e)) (fm:eC P e=some (sz+1)) (hz:j9 P e=some z)
  (hl:ur P ps=some l) (Pe:len*(sz+1)<=4096) (V3:l.map (·.1)=List.range len) (hv:rowsOf (sz+1) (l.map fun x=>dc env x.2)=some rs):Mk P a o w D ι id (.own id 0 len) ⟨true,sz+1,rs⟩:=by
 obtain⟨it,zv,hi,xV,hs,hm,HS⟩:=kD hz
 have j5:it.size=sz+1:=by simpa[eC,hi]using fm
 obtain⟨n1,r1⟩:=rK E hl
 have HM:l.length=len:=by have:=congrArg List.length V3;simpa using this
 by_cases h0:len=0
 ·subst h0
  have N6:l=[]:=List.length_eq_zero_iff.1 HM
  subst N6
  simp[rowsOf]at hv;subst hv
  have XO:ps= #[]:=by
   apply Array.ext';apply List.eq_nil_of_length_eq_zero;rw[<-n1];rfl
  subst XO
  refine⟨.slice (some ⟨w.heap.size,0,none⟩) 0 0, #[],e,?_,rfl,by simp,by simp,by simp,fun i j cs x hi=>by simp at hi,fun ι' hι=>?_⟩
  ·simp[execOp,ho,Instr.buildSlice,run_underlying ht,sizeOf,typeInfo,hi,Instr.fill,newRow,Array.range_zero']
  ·exact .own _ 0 0 0 0 _ hι rfl (Nat.le_refl _) (.inl rfl) (by simp) (by simp[maxLen])
 ·have zb:fG P w D ι ((List.range (len*(sz+1))).map fun k=>(z.getD (k % z.length) .bI).av) ((Array.range (len*(sz+1))).map (zv.cells[· % zv.cells.size]!)):=by
   refine⟨by simp,fun j x hx=>?_⟩
   simp only[List.getElem?_map,Option.map_eq_some_iff]at hx
   obtain⟨k,hk,rfl⟩:=hx
   have lj:=(List.getElem?_eq_some_iff.1 hk).1
   simp at lj
   rw[List.getElem?_range lj]at hk
   injection hk with hk
   subst hk
   obtain⟨c,hc,Vv⟩:=qo hm (by rw[HS,j5];omega) j lj
   exact⟨c.val,Vv,by rw[List.getD_eq_getElem?_getD,hc];exact yI c⟩
  obtain⟨f1,f2,f3,f4⟩:=xH (l.map fun x=>dc env x.2) (sz+1) 0 rs ((List.range (len*(sz+1))).map fun k=>(z.getD (k % z.length) .bI).av) ah (by simp[HM]) hv
  obtain⟨jL,h1,h2,h3,h4⟩:=xI (P:=P) (w:=w) (D:=D) (ι:=ι) (fun i=>some (i*it.size,it.size)) (ps.toList.map fun(i,x)=>(i,a.eval x)) _ _ _ _ zb
   (fun b hb=>by obtain⟨c,_,rfl⟩:=List.mem_map.1 hb;exact K.nQ _) (by simp[n1]) (fun k i u o' n x sw uE=>by
   simp only[List.getElem?_map,Option.map_eq_some_iff]at sw uE
   obtain⟨⟨i',x'⟩,hp,e1⟩:=sw
   obtain⟨⟨v2,j2⟩,Pd,e2⟩:=uE
   simp only[Prod.mk.injEq]at e1 e2
   obtain⟨rfl,rfl⟩:=e1
   obtain⟨rfl,rfl,rfl⟩:=e2
   rw[List.getElem?_zipIdx]at Pd
   simp only[List.getElem?_map,Option.map_map,Option.map_eq_some_iff,Function.comp_apply,Prod.mk.injEq,Nat.zero_add]at Pd
   obtain⟨⟨i2,y⟩,LW,rfl,rfl⟩:=Pd
   obtain⟨x2,zy,hc⟩:=r1 _ _ _ LW
   rw[hp]at zy
   simp only[Option.some.injEq,Prod.mk.injEq]at zy
   obtain⟨rfl,rfl⟩:=zy
   have Af:(l.map (·.1))[k]? =some i':=by rw[List.getElem?_map,LW];rfl
   have lj:=(List.getElem?_eq_some_iff.1 Af).1
   rw[V3]at Af
   simp at lj
   rw[List.getElem?_range ah]at Af
   injection Af with Af
   subst Af
   exact⟨by rw[j5],dw E hc⟩) f1
  simp only[Nat.zero_mul,List.take_zero,List.nil_append,List.length_map]at h2 h3 h4 f2
  have dx:jL.size=len*(sz+1):=by rw[h2.1,h4];simp
  refine⟨.slice (some ⟨w.heap.size,0,none⟩) len len,jL,e,?_,rfl,?_,f3,f4,fun i j cs x sr hj=>h2.2 _ _ (flat_get f3 sr hj),fun ι' hι=>?_⟩
  ·have fP:=run_buildSlice (P:=P) w t e len (ps.map fun(i,x)=>(i,a.eval x)) jL it zv ht hi xV (by rw[j5];omega) (by rw[j5];exact Nat.mul_ne_zero h0 ah) (by rw[<-j5]at h1;simpa using h1)
   simp only[execOp,ho,Sem.run_bind,fP,Result.andThen_ok,Sem.run_pure]
  ·dsimp only;rw[f2,HM,dx];exact Nat.le_refl _
  ·refine .own _ 0 len 0 len _ hι rfl (Nat.le_refl _) (.inr (by simp)) ?_ (by simp only[maxLen];have:=Nat.le_mul_of_pos_right len (show 0<sz+1 by omega);omega)
   dsimp only;rw[dx];simp
theorem JB {t e:TypeId} {it:TypeInfo} {m:Nat} {z:List K} {l c:Operand} {l' c':O} {n:Nat} {r:Row} (E:cD P w D ι env a) (ho:o.op=.makeSlice t l c) (ht:P.underlying t=some (.slice e)) (fm:eC P e=some (m+1)) (hz:j9 P e=some z) (Kx:P.info? e=some it) (hby:it.bytes<=32768)
  (hl:cO P l=some l') (hc:cO P c=some c') (hv:gT z (dc env l') (dc env c')=some (n,r)):Mk P a o w D ι id (.own id 0 n) r:=by
 obtain⟨it',zv,hi,xV,hs,hm,HS⟩:=kD hz
 rw[Kx]at hi;injection hi with hi;subst hi
 have j5:it.size=m+1:=by simpa[eC,Kx]using fm
 unfold gT at hv
 split at hv
 ·rename_i k1 ln k2 cn e1 e2
  split at hv
  ·rename_i hb
   obtain⟨b1,b2,b3⟩:=hb
   simp at hv
   obtain⟨rfl,rfl⟩:=hv
   have r1:=dq (e1▸dw E hl)
   have r2:=dq (e2▸dw E hc)
   unfold dz at b3
   have QK:(it.bytes:Int)*cn<=281474976710656:=by
    have h1:(it.bytes:Int)<=32768:=ah
    have h2:(it.bytes:Int)*cn<=32768*16777216:=Int.mul_le_mul h1 ah ah ah
    omega
   have fP:=run_make (P:=P) w t e it zv ht Kx xV k1 k2 ln cn b1 b2 QK ah
   have lh:∀k,k<cn.toNat*it.size->∃x,z[k % z.length]? =some x/\(madeCells zv.cells (cn.toNat*it.size))[k]? =some x.val:=fun k hk=>qo hm (by rw[HS,j5];omega) k hk
   refine⟨.slice (some ⟨w.heap.size,0,none⟩) ln.toNat cn.toNat,madeCells zv.cells (cn.toNat*it.size),e,by simp only[execOp,ho,r1,r2,Sem.run_bind,fP,Result.andThen_ok,Sem.run_pure],rfl,?_,?_,?_,?_,fun ι' hι=>?_⟩
   ·simp only[List.length_replicate,size_madeCells,HS]
    exact Nat.mul_le_mul_right _ ah
   ·intro cs dx
    have:=List.eq_of_mem_replicate dx
    subst this;simp
   ·intro cs dx x hx
    have:=List.eq_of_mem_replicate dx
    subst this
    obtain⟨c,_,rfl⟩:=List.mem_map.1 hx;exact c.nQ
   ·intro i j cs x sr hj
    have mb:=(List.getElem?_eq_some_iff.1 sr).1
    have:=List.eq_of_mem_replicate (List.mem_of_getElem? sr)
    subst this
    simp only[List.length_replicate]at mb
    simp only[List.getElem?_map,Option.map_eq_some_iff]at hj
    obtain⟨q,hq,rfl⟩:=hj
    have gY:=(List.getElem?_eq_some_iff.1 hq).1
    dsimp only
    obtain⟨x,hx,zy⟩:=lh (i*z.length+j) (by
     rw[<-HS]
     calc i*z.length+j<i*z.length+z.length:=ah
      _=(i+1)*z.length:=by rw[Nat.add_mul,Nat.one_mul]
      _<=cn.toNat*z.length:=Nat.mul_le_mul_right _ ah)
    rw[Nat.mul_comm i,Nat.mul_add_mod,Nat.mod_eq_of_lt gY,hq]at hx
    injection hx with hx;subst hx
    exact⟨_,by rw[Nat.mul_comm i]at zy ⊢;exact zy,yI q⟩
   ·refine .own _ 0 _ 0 _ _ hι rfl ah (.inr (by simp)) ?_ (by simp only[maxLen];omega)
    dsimp only;rw[size_madeCells,HS];simp
  ·simp at hv
 ·simp at hv
end
end Go.Proofs.YtgoljkjaameagaaGreat.V

namespace Go.Proofs.YtgoljkjaameagaaGreat.V
open Go.RowKit
variable {P:Program} {w w':World} {D D':Nat->Prop} {ι ι':Names}
def Hl (P:Program) (k:TypeId) (m:MK):Prop:=
 (∃s,m=⟨false,[s]⟩/\fJ P k=some s)∨
 (∃fs ts,m=⟨true,ts⟩/\P.underlying k=some (.struct fs)/\eU P 4 0 fs.toList=some ts/\P.stoodInHeld k=false/\∀f∈fs.toList,(fJ P f.type).isSome=true)
theorem sN {t:TypeId} {m:MK} {z:K} (h:uq P t=some (m,z)):∃k e i zv,P.underlying t=some (.map k e)/\P.info? e=some i/\i.zero=some zv/\Jo zv=some z/\Hl P k m:=by
 unfold uq at h
 split at h
 ·rename_i k e ht
  split at h
  ·rename_i zv s h1 h2 h3
   simp only[Option.map_eq_some_iff,Prod.mk.injEq]at h
   obtain⟨z',hz,rfl,rfl⟩:=h
   simp only[Option.bind_eq_some_iff]at h2
   obtain⟨i,hi,xV⟩:=h2
   exact⟨k,e,i,zv,ht,hi,xV,hz,.inl ⟨s,rfl,h3⟩⟩
  ·rename_i zv fs h1 h2 h3 h4
   split at h
   ·rename_i ts z' zx hz
    split at h
    ·rename_i hc
     simp only[Option.some.injEq,Prod.mk.injEq]at h
     obtain⟨rfl,rfl⟩:=h
     simp only[Option.bind_eq_some_iff]at h2
     obtain⟨i,hi,xV⟩:=h2
     simp only[Bool.not_eq_true',List.all_eq_true]at hc
     exact⟨k,e,i,zv,ht,hi,xV,hz,.inr ⟨fs,ts,rfl,h4,zx,hc.1,hc.2⟩⟩
    ·cases h
   ·cases h
  ·cases h
 ·cases h
theorem yN {t:TypeId} {s:TS} (ht:fJ P t=some s) (em:Bool) (n:Nat) (v:Value):(Instr.checkKey em (n+1) t v).run P w=.ok () w:=by
 unfold Instr.checkKey
 cases s with
 |tB=>simp[run_underlying (qJ ht)]
 |tS=>simp[run_underlying (qL ht)]
 |tI=>
  obtain⟨q,hq⟩:=qK ht
  simp[run_underlying hq]
theorem yO (em:Bool) (n:Nat) (vs:Array Value):∀(d:Nat) (fs:List Field) (off:Nat) (ts:List TS),eU P (d+1) off fs=some ts->(∀f∈fs,(fJ P f.type).isSome=true)->off+ts.length<=vs.size->
  Sem.run P (forIn fs PUnit.unit fun f (_:PUnit)=>if f.name≠ "_" then do
    let x <-Go.part f.type vs f.offset
    Instr.checkKey em (n+1) f.type x
    pure (ForInStep.yield PUnit.unit)
   else pure (ForInStep.yield PUnit.unit)) w=Result.ok PUnit.unit w
 |d,[],off,ts,_,_,_=>by simp
 |d,f::r,off,ts,hf,hs,hl=>by
  rw[zZ]at hf
  split at hf
  ·rename_i hcond
   obtain⟨ho,iD⟩:=hcond
   split at hf
   ·rename_i s Ut
    split at hf
    ·rename_i wZ
     simp only[Option.map_eq_some_iff]at hf
     obtain⟨Oa,hr,rfl⟩:=hf
     simp only[List.length_cons]at hl
     have ih:=yO em n vs d r (off+1) Oa hr (fun f hf=>hs f (List.mem_cons_of_mem _ hf)) ah
     have hu:vs[off]? =some vs[off]:=by simp
     simp only[List.forIn_cons,Sem.run_bind,if_pos iD,ho,nE wZ hu,Result.andThen_ok,yN Ut,Sem.run_pure]
     exact ih
    ·cases hf
   ·rename_i hn
    have:=hs f (by simp)
    rw[hn]at this;cases this
  ·cases hf
theorem GP {k:TypeId} {m:MK} (hk:Hl P k m) (em:Bool) (key:AV) (u:Value) (wZ:key.isAgg=m.ka) (hlen:key.cells.length=m.ks) (hr:dd P w D ι key u):(Instr.checkKey em 10000 k u).run P w=.ok () w:=by
 rcases hk with⟨s,rfl,hs⟩|⟨fs,ts,rfl,s6,zx,dC,dP⟩
 ·exact yN hs em 9999 u
 ·cases key<;>simp[AV.isAgg]at wZ
  rename_i cs
  obtain⟨vs,f,rfl,h1,_⟩:=iY hr
  unfold Instr.checkKey
  simp only[Sem.run_bind,run_underlying s6,Result.andThen_ok]
  rw[<-Array.forIn_toList]
  have h:=yO (P:=P) (w:=w) em 9998 vs 3 fs.toList 0 ts zx dP (by simp[AV.cells,MK.ks]at hlen;omega)
  rw[h]
  rfl
theorem K2 (a b:ByteArray):(a==b)=decide (a=b):=by
 by_cases h:a=b
 ·subst h;rw[decide_eq_true rfl]
  obtain⟨x⟩:=a
  show(x==x)=true
  simp
 ·rw[decide_eq_false h,Bool.eq_false_iff]
  intro hc
  obtain⟨x⟩:=a
  obtain⟨y⟩:=b
  exact h (by rw[show x=y by simpa using(show(x==y)=true from hc)])
theorem M8 {t:TypeId} {s:TS} {x y:AV} {u v:Value} {b:Bool} {d:TypeDesc} (ht:fJ P t=some s) (hd:P.underlying t=some d) (he:fQ s x y=some b) (hx:dd P w D ι x u) (hy:dd P w D ι y v):Instr.sameNow d u v=some b:=by
 unfold fQ at he
 split at he
 ·rename_i k n k' n'
  split at he
  ·rename_i hk
   subst hk
   simp at he;subst he
   obtain⟨q,hq⟩:=qK ht
   rw[hd]at hq;injection hq with hq;subst hq
   rw[dq hx,dq hy]
   simp[Instr.sameNow]
   rfl
  ·cases he
 ·simp at he;subst he
  have hq:=qJ ht
  rw[hd]at hq;injection hq with hq;subst hq
  rw[fw hx,fw hy];rfl
 ·rename_i a c
  simp at he;subst he
  have hq:=qL ht
  rw[hd]at hq;injection hq with hq;subst hq
  rw[gi hx,gi hy]
  simp only[Instr.sameNow,K2]
 ·cases he
def Found (es:List MapEntry) (i:Nat) (r:Option Nat) (res:Option (Nat×Value)):Prop:=(r=none/\res=none)∨∃j e,r=some (i+j)/\es[j]? =some e/\res=some (i+j,e.val)
theorem xK {e:MapEntry} {es:List MapEntry} {i:Nat} {r:Option Nat} {res:Option (Nat×Value)} (h:Found es (i+1) r res):Found (e::es) i r res:=by
 rcases h with h|⟨j,x,h1,h2,h3⟩
 ·exact .inl h
 ·exact .inr ⟨j+1,x,by rw[h1];congr 1;omega,by simpa using h2,by rw[h3];congr 2;omega⟩
theorem Dk {t:TypeId} {s:TS} {d:TypeDesc} {x:AV} {u:Value} (ht:fJ P t=some s) (hd:P.underlying t=some d) (hx:dd P w D ι x u):∀(rows:List (List AV)) (es:List MapEntry) (i:Nat) (r:Option Nat),es.length=rows.length->
  (∀(j:Nat) (cs:List AV),rows[j]? =some cs->∃(e:MapEntry) (kv:AV),es[j]? =some e/\cs.head? =some kv/\dd P w D ι kv e.key)->gH ⟨false,[s]⟩ [x] rows i=some r->∃res,Instr.findNow d u es i=some res/\Found es i r res
 |[],[],i,r,_,_,h=>by
  simp[gH]at h;subst h
  exact⟨none,rfl,.inl ⟨rfl,rfl⟩⟩
 |[],e::es,i,r,hl,_,h=>by simp at hl
 |cs::rows,[],i,r,hl,_,h=>by simp at hl
 |cs::rows,e::es,i,r,hl,hr,h=>by
  obtain⟨e',kv,Bz,hk,il⟩:=hr 0 cs rfl
  simp at Bz;subst Bz
  have dx:cs.take (MK.ks ⟨false,[s]⟩)=[kv]:=by
   cases cs with
   |nil=>simp at hk
   |cons a l=>simp at hk;subst hk;simp[MK.ks]
  unfold gH at h
  rw[dx]at h
  cases hq:fQ s x kv with
  |none=>simp[e6,hq]at h
  |some b=>
   have hs:=M8 ht hd hq hx il
   cases b with
   |true=>
    simp[e6,hq]at h;subst h
    exact⟨some (i,e.val),by simp[Instr.findNow,hs],.inr ⟨0,e,rfl,rfl,rfl⟩⟩
   |false=>
    simp[e6,hq]at h
    obtain⟨res,h1,h2⟩:=Dk ht hd hx rows es (i+1) r (by simpa using hl) (fun j cs hj=>hr (j+1) cs (by simpa using hj)) h
    exact⟨res,by simp[Instr.findNow,hs,h1],xK h2⟩
theorem rz {t:TypeId} {fs:Array Field} {ts:List TS} {xs ys:List AV} {vs us:Array Value} {b:Bool} (s6:P.underlying t=some (.struct fs)) (dC:P.stoodInHeld t=false) (zx:eU P 4 0 fs.toList=some ts) (hx:fG P w D ι xs vs) (hy:fG P w D ι ys us) (hv:e6 ts xs ys=some b):(Op.equal t (.agg vs) (.agg us)).run P w=.ok b w:=by
 obtain⟨l1,l2⟩:=sW hv
 have q:=tE (w:=w) 4 fs.toList 0 ts zx 9998 ah xs ys vs us b hx hy (by simpa[List.take_of_length_le,l1,l2]using hv)
 have QM:P.fieldsOf t=fs:=by simp[Program.fieldsOf,s6]
 unfold Op.equal
 rw[show Op.maxDepth=9999+1 from rfl,run_equalIn_struct w 9999 t _ _ (by rw[QM];exact s6) dC,QM,q]
theorem tA {cs:List AV} {v:Value} (h:dd P w D ι (.agg cs) v):∃vs,v=.agg vs/\fG P w D ι cs vs:=by
 obtain⟨vs,f,rfl,n1,_,f1,r1⟩:=iY h
 exact⟨vs,rfl,n1,fun j a ha=>⟨f j,f1 j (List.getElem?_eq_some_iff.1 ha).1,r1 j a ha⟩⟩
theorem Dj {t:TypeId} {fs:Array Field} {ts:List TS} {xs:List AV} {vs:Array Value} (s6:P.underlying t=some (.struct fs)) (dC:P.stoodInHeld t=false) (zx:eU P 4 0 fs.toList=some ts) (hx:fG P w D ι xs vs):∀(rows:List (List AV)) (es:List MapEntry) (i:Nat) (r:Option Nat),es.length=rows.length->
  (∀(j:Nat) (cs:List AV),rows[j]? =some cs->∃e:MapEntry,es[j]? =some e/\dd P w D ι (.agg (cs.take ts.length)) e.key)->gH ⟨true,ts⟩ xs rows i=some r->∃res,(Instr.findAsking t (.agg vs) es i).run P w=.ok res w/\Found es i r res
 |[],[],i,r,_,_,h=>by
  simp[gH]at h;subst h
  exact⟨none,by simp[Instr.findAsking],.inl ⟨rfl,rfl⟩⟩
 |[],e::es,i,r,hl,_,h=>by simp at hl
 |cs::rows,[],i,r,hl,_,h=>by simp at hl
 |cs::rows,e::es,i,r,hl,hr,h=>by
  obtain⟨e',Bz,il⟩:=hr 0 cs rfl
  simp at Bz;subst Bz
  obtain⟨us,hk,hy⟩:=tA il
  unfold gH at h
  simp only[MK.ks]at h
  split at h
  ·rename_i hq
   simp at h;subst h
   have q:=rz s6 dC zx hx hy hq
   exact⟨some (i,e.val),by simp[Instr.findAsking,hk,q],.inr ⟨0,e,rfl,rfl,rfl⟩⟩
  ·rename_i hq
   have q:=rz s6 dC zx hx hy hq
   obtain⟨res,h1,h2⟩:=Dj s6 dC zx hx rows es (i+1) r (by simpa using hl) (fun j cs hj=>hr (j+1) cs (by simpa using hj)) h
   exact⟨res,by simp[Instr.findAsking,hk,q,h1],xK h2⟩
  ·cases h
theorem xD {a:AV} (h:a.isAgg=false):a.cells=[a]:=by cases a<;>simp_all [AV.isAgg,AV.cells]
theorem xJ {k:TypeId} {m:MK} {B:uf} {r:Row} (hk:Hl P k m) {key:AV} {u:Value} (hr:dd P w D ι key u) {es:Array MapEntry} (fm:es.size=r.rows.length)
  (hM:∀(i:Nat) (cs:List AV),r.rows[i]? =some cs->∃(e:MapEntry) (kv vv:AV),es[i]? =some e/\part m.ka m.ks cs=some kv/\cs[m.ks]? =some vv/\dd P w D ι kv e.key/\dd P w D ι vv e.val) {fi:Option Nat} (h:gD m key r.rows=some fi):
  (∀em,(Instr.checkKey em 10000 k u).run P w=.ok () w)/\∃res,(Instr.findKey k u es.toList).run P w=.ok res w/\Found es.toList 0 fi res:=by
 unfold gD at h
 split at h
 ·rename_i hc
  obtain⟨c1,c2,c3⟩:=hc
  refine⟨fun em=>GP hk em key u c1 c2 hr,?_⟩
  rcases hk with⟨s,rfl,hs⟩|⟨fs,ts,rfl,s6,zx,dC,dP⟩
  ·rw[xD c1]at h
   have hd:∃d,P.underlying k=some d:=by
    cases s with
    |tB=>exact⟨_,qJ hs⟩
    |tS=>exact⟨_,qL hs⟩
    |tI=>obtain⟨q,hq⟩:=qK hs;exact⟨_,hq⟩
   obtain⟨d,hd⟩:=hd
   obtain⟨res,h1,h2⟩:=Dk hs hd hr r.rows es.toList 0 fi (by simpa using fm) (fun j cs hj=>by
    obtain⟨e,kv,vv,q1,q2,_,q4,_⟩:=hM j cs hj
    exact⟨e,kv,by simpa using q1,by simpa[part]using q2,q4⟩) h
   exact⟨res,by simp[Instr.findKey,run_underlying hd,h1],h2⟩
  ·cases key<;>simp[AV.isAgg]at c1
   rename_i cs
   obtain⟨vs,rfl,hL⟩:=tA hr
   obtain⟨res,h1,h2⟩:=Dj s6 dC zx hL r.rows es.toList 0 fi (by simpa using fm) (fun j cs hj=>by
    obtain⟨e,kv,vv,q1,q2,_,q4,_⟩:=hM j cs hj
    unfold part at q2
    simp only[if_true]at q2
    split at q2
    ·simp only[Option.some.injEq]at q2;subst q2
     exact⟨e,by simpa using q1,q4⟩
    ·cases q2) h
   exact⟨res,(run_findKey_eq w (by simp[s6]) _ _).trans h1,h2⟩
 ·cases h
section
variable {g:Rows} {hs:Nat} {env:Env} {a:Act} {o:Oper} {id:Id} {v:AV}
theorem BQ {m:MK} {x:AV} {u:Value} {p:Id×Row} (S:gR P hs D ι g w) (hr:dd P w D ι x u) (h:dM g m x=some p):∃B,u=.map (some B.b)/\g p.1=some p.2/\ι p.1=some B/\B.k=some (.map m)/\Qv P w D ι B m p.2:=by
 unfold dM at h
 split at h
 ·rename_i i m'
  split at h
  ·rename_i hm
   subst hm
   simp only[Option.map_eq_some_iff]at h
   obtain⟨r,hg,rfl⟩:=h
   obtain⟨B,rfl,hB,hk⟩:=B9 hr
   obtain⟨B',dL,R,_⟩:=S.row i r hg
   rw[hB]at dL;injection dL with dL;subst dL
   exact⟨B,rfl,hg,hB,hk,(R.map _ hk).2⟩
  ·cases h
 ·cases h
theorem TU {t:TypeId} {x k:Operand} {ok:Bool} {m:MK} {z:K} {x' k':O} {mr:Option Row} (S:gR P hs D ι g w) (E:cD P w D ι env a) (ho:o.op=.lookup t x k ok) (hc:uq P t=some (m,z)) (hx:cO P x=some x') (hk:cO P k=some k')
  (hv:bD (.look m ok z) [dc env x',dc env k'] g id=some (v,mr)):mr=none/\pr P a o w D ι v:=by
 obtain⟨kt,e,i,zv,ht,hi,xV,XE,hK⟩:=sN hc
 simp only[bD,Option.bind_eq_some_iff,Option.map_eq_some_iff,Prod.mk.injEq]at hv
 obtain⟨p,hp,fi,E4,y,hy,rfl,rfl⟩:=hv
 obtain⟨B,hu,hg,hB,wY,es,clock,hb,fm,hlen,hM⟩:=BQ S (dw E hx) hp
 obtain⟨NT,res,hf,hF⟩:=xJ (B:=B) hK (dw E hk) fm hM E4
 have key:∃val,(match res with|some (_,v)=>(v,true)|none=>(zv,false))=(val,fi.isSome)/\dd P w D ι y val:=by
  rcases hF with⟨rfl,rfl⟩|⟨j,en,rfl,he,rfl⟩
  ·simp only[dQ,Option.some.injEq]at hy;subst hy
   refine⟨zv,rfl,?_⟩
   rw[BG XE];exact yI z
  ·simp only[dQ,Option.bind_eq_some_iff,Nat.zero_add]at hy
   obtain⟨cs,dx,hy⟩:=hy
   obtain⟨e',kv,vv,q1,_,q3,_,q5⟩:=hM _ cs dx
   rw[hy]at q3;injection q3 with q3;subst q3
   have:e'=en:=by
    have h1:es.toList[j]? =some e':=by simpa using q1
    rw[he]at h1;injection h1 with h1;exact h1.symm
   subst this
   exact⟨_,rfl,q5⟩
 obtain⟨val,uH,mE⟩:=key
 have eR:(getObj B.b).run P w=.ok (.map es clock) w:=MapKept.run_getObj_map hb
 have hz:(zeroValue e).run P w=.ok zv w:=by simp[zeroValue,typeInfo,hi,xV]
 refine⟨rfl,if ok then .tuple #[val,.bool fi.isSome]else val,?_,?_⟩
 ·simp only[execOp,ho,hu,Instr.lookup,Sem.run_bind,run_underlying ht,Result.andThen_ok,eR,Sem.run_pure,NT,hf]
  rcases hF with⟨rfl,rfl⟩|⟨j,en,rfl,he,rfl⟩
  ·simp only[Prod.mk.injEq]at uH
   simp[hz,uH.1]
  ·simp only[Prod.mk.injEq]at uH
   simp[uH.1]
 ·cases ok with
  |false=>exact mE
  |true=>
   refine .gJ _ _ (fun j=>if j=0 then val else .bool fi.isSome) rfl (fun j hj=>?_) (fun j b hj=>?_)
   ·have:j=0∨j=1:=by simp at hj;omega
    rcases this with rfl|rfl<;>rfl
   ·match j,hj with
    |0,hj=>simp at hj;subst hj;exact mE
    |1,hj=>simp at hj;subst hj;exact .eV _ _ (.bool _)
    |j+2,hj=>simp at hj
theorem TX {t:TypeId} {x:Operand} {m:MK} {z:K} {x':O} {mr:Option Row} (S:gR P hs D ι g w) (E:cD P w D ι env a) (ho:o.op=.call {callee:=.builtin .len,args:= #[x],argTypes:= #[t]}) (hc:uq P t=some (m,z)) (hx:cO P x=some x')
  (hv:bD (.len m) [dc env x'] g id=some (v,mr)):mr=none/\pr P a o w D ι v:=by
 obtain⟨kt,e,i,zv,ht,hi,xV,XE,hK⟩:=sN hc
 simp only[bD,Option.map_eq_some_iff,Prod.mk.injEq]at hv
 obtain⟨p,hp,rfl,rfl⟩:=hv
 obtain⟨B,hu,hg,hB,wY,es,clock,hb,fm,hlen,hM⟩:=BQ S (dw E hx) hp
 have eR:(getObj B.b).run P w=.ok (.map es clock) w:=MapKept.run_getObj_map hb
 refine⟨rfl,.int .i64 (es.size:Int),?_,by rw[fm];exact .eV _ _ (.int _ _)⟩
 simp only[execOp,ho,resolve,Sem.run_bind,Sem.run_pure,Result.andThen_ok,invoke,builtin,Array.map,hu]
 simp[Builtin.len_,run_underlying ht,goInt,hu,eR]
def MkM (P:Program) (a:Act) (o:Oper) (w:World) (id:Id) (v:AV) (r:Row):Prop:=
 ∃m,(execOp a.eval o).run P w=.ok (.value (.map (some w.heap.size))) (w.alloc (.map #[] 0))/\v=.map id m/\r=⟨true,m.lq,[]⟩
theorem Wl {t:TypeId} {m:MK} (ho:o.op=.makeMap t none):MkM P a o w id (.map id m) ⟨true,m.lq,[]⟩:=by
 refine⟨m,?_,rfl,rfl⟩
 simp[execOp,ho,Instr.makeMap,go_sem]
def MkC (P:Program) (a:Act) (o:Oper) (w:World) (id:Id) (v:AV) (r:Row):Prop:=
 ∃n,(execOp a.eval o).run P w=.ok (.value (.chan (some w.heap.size))) (w.alloc (.chan n #[] false 0 0 false))/\v=.sQ id/\r=⟨true,sS+n,[]⟩
theorem Td {t e:TypeId} {x:Operand} {x':O} {dir:ChanDir} {i:TypeInfo} {n:Nat} (E:cD P w D ι env a) (ho:o.op=.makeChan t x) (ht:P.underlying t=some (.chan dir e)) (hi:P.info? e=some i) (hb:i.bytes<=32768) (hx:cO P x=some x') (hn:cU (dc env x')=some n):MkC P a o w id (.sQ id) ⟨true,sS+n,[]⟩:=by
 refine⟨n,?_,rfl,rfl⟩
 have hr:=dw E hx
 unfold cU at hn
 split at hn
 ·rename_i k m hm
  rw[hm]at hr
  split at hn
  ·rename_i hc
   simp only[Option.some.injEq]at hn
   subst hn
   have QT:((m.toNat:Nat):Int)=m:=ah
   have ei:(i.bytes:Int)*(m.toNat:Nat)<=281474976710544:=by
    have h1:i.bytes*m.toNat<=32768*1048576:=Nat.mul_le_mul hb ah
    have h2:((i.bytes*m.toNat:Nat):Int)<=281474976710544:=ah
    rwa [Int.natCast_mul]at h2
   have h:=Conc.run_makeChan (P:=P) (w:=w) ht hi k m.toNat ah ei
   rw[QT]at h
   simp only[execOp,ho,dq hr,Sem.run_bind,h,Result.andThen_ok,Sem.run_pure]
  ·cases hn
 ·cases hn
theorem Bf {x:AV} {u:Value} {i:Id} {r:Row} (S:gR P hs D ι g w) (hr:dd P w D ι x u) (hx:x=.sQ i) (hg:g i=some r):∃B c,u=.chan (some B.b)/\ι i=some B/\B.k=some (.chan c)/\r.sz=sS+c/\KI P w D ι B c r:=by
 subst hx
 obtain⟨B,c,rfl,hB,hk⟩:=P4 hr
 obtain⟨B',dL,R,_⟩:=S.row i r hg
 rw[hB]at dL;injection dL with dL;subst dL
 exact⟨B,c,rfl,hB,hk,R.chan c hk⟩
theorem TP {t e:TypeId} {dir:ChanDir} {x:Operand} {x':O} (S:gR P hs D ι g w) (E:cD P w D ι env a) (ho:o.op=.call {callee:=.builtin .len,args:= #[x],argTypes:= #[t]}) (ht:P.underlying t=some (.chan dir e)) (hx:cO P x=some x') (hv:cQ g (dc env x')=some v):pr P a o w D ι v:=by
 have hr:=dw E hx
 unfold cQ at hv
 split at hv
 ·rename_i i he
  simp only[Option.map_eq_some_iff]at hv
  obtain⟨r,hg,rfl⟩:=hv
  obtain⟨B,c,hu,hB,hk,fm,buf,s,q,hb,NS,_⟩:=Bf S hr he hg
  have eR:(getObj B.b).run P w=.ok (.chan c buf false s q false) w:=by simp[getObj,Sem.run,hb]
  refine⟨.int .i64 (buf.size:Int),?_,by rw[NS];exact .eV _ _ (.int _ _)⟩
  simp only[execOp,ho,resolve,Sem.run_bind,Sem.run_pure,Result.andThen_ok,invoke,builtin,Array.map,hu]
  simp[Builtin.len_,run_underlying ht,goInt,hu,eR]
 ·cases hv
end
end Go.Proofs.YtgoljkjaameagaaGreat.V

namespace Go.Proofs.YtgoljkjaameagaaGreat.V
open Go.RowKit
variable {P:Program} {w w':World} {D D':Nat->Prop} {ι ι':Names}
def Og (P:Program) (a:Act) (o:Oper) (w:World) (D:Nat->Prop) (ι:Names) (id:Id) (v:AV):Option Row->Prop
 |none=>pr P a o w D ι v
 |some r=>Mk P a o w D ι id v r∨MkM P a o w id v r∨MkC P a o w id v r
section
variable {g:Rows} {hs:Nat} {env:Env} {a:Act} {o:Oper} {id:Id} {v:AV}
theorem mu {x:Option AV} {mr:Option Row} (h:x.map (·,(none:Option Row))=some (v,mr)) (H:x=some v->pr P a o w D ι v):Og P a o w D ι id v mr:=by
 cases x with
 |none=>simp at h
 |some y=>simp at h;obtain⟨rfl,rfl⟩:=h;exact H rfl
theorem Wu {neg:Bool} {t yt:TypeId} {x y:Operand} {vo:gV} {mr:Option Row} (ho:o.op=.binOp (if neg then .neq else .eql) t x y yt) (hc:uo P neg t x y=some vo) (hq:eM vo (dc env) g id=some (v,mr)) (E:cD P w D ι env a):Og P a o w D ι id v mr:=by
 unfold uo at hc
 split at hc
 ·split at hc
  ·rename_i e ht
   simp only[Option.map_eq_some_iff]at hc
   obtain⟨x',hx,rfl⟩:=hc
   simp only[eM,dX,Bool.false_eq_true,if_false,Option.map_eq_some_iff,Prod.mk.injEq]at hq
   obtain⟨b,hb,rfl,rfl⟩:=hq
   exact TK E ho ht hx hb
  ·simp at hc
 ·split at hc
  ·rename_i ht
   simp only[Option.map_eq_some_iff]at hc
   obtain⟨x',hx,rfl⟩:=hc
   simp only[eM,dX,if_true,Option.map_eq_some_iff,Prod.mk.injEq]at hq
   obtain⟨b,hb,rfl,rfl⟩:=hq
   exact TJ E ho ht hx hb
  ·simp at hc
 ·split at hc
  ·rename_i ht
   simp only[Option.map_eq_some_iff]at hc
   obtain⟨x',hx,rfl⟩:=hc
   simp only[eM,Option.map_eq_some_iff,Prod.mk.injEq]at hq
   obtain⟨b,hb,rfl,rfl⟩:=hq
   exact WQ E ho ht hx hb
  ·simp at hc
 ·split at hc
  ·rename_i s hs
   simp only[Option.bind_eq_bind,Option.bind_eq_some_iff,Option.pure_def,Option.some.injEq]at hc
   obtain⟨x',hx,y',hy,rfl⟩:=hc
   simp only[eM,Option.map_eq_some_iff,Prod.mk.injEq]at hq
   obtain⟨b,hb,rfl,rfl⟩:=hq
   have DP:fJ P t=some s:=by
    unfold Yq at hs
    split at hs
    ·rename_i s' h;simp at hs;subst hs;exact h
    ·split at hs
     ·split at hs
      ·simp at hs
      ·simp at hs
     ·simp at hs
   exact WR E ho DP hx hy hb
  ·rename_i ts hs
   simp only[Option.bind_eq_bind,Option.bind_eq_some_iff,Option.pure_def,Option.some.injEq]at hc
   obtain⟨x',hx,y',hy,rfl⟩:=hc
   simp only[eM]at hq
   split at hq
   ·rename_i xs ys h1 h2
    simp only[Option.map_eq_some_iff,Prod.mk.injEq]at hq
    obtain⟨b,hb,rfl,rfl⟩:=hq
    unfold Yq at hs
    split at hs
    ·simp at hs
    ·split at hs
     ·rename_i fs s6
      split at hs
      ·rename_i hg
       simp only[Option.map_eq_some_iff,Yb.ag.injEq]at hs
       obtain⟨Oa,zx,rfl⟩:=hs
       simp only[Bool.and_eq_true,Bool.not_eq_true']at hg
       exact WO E ho s6 hg.1 hg.2 zx hx hy h1 h2 hb
      ·simp at hs
     ·simp at hs
   ·simp at hq
  ·simp at hc
theorem Tk {c:Call} {vo:gV} {mr:Option Row} (ho:o.op=.call c) (hc:oI P c=some vo) (hq:eM vo (dc env) g id=some (v,mr)) (S:gR P hs D ι g w) (E:cD P w D ι env a):Og P a o w D ι id v mr:=by
 unfold oI at hc
 split at hc
 ·rename_i lx
  split at hc
  ·rename_i x t h1 h2
   have hce:c={callee:=.builtin .len,args:= #[x],argTypes:= #[t]}:=by
    obtain⟨a,b,c⟩:=c
    simp only at h1 h2 lx
    subst lx
    congr
    ·exact Array.ext' h1
    ·exact Array.ext' h2
   rw[hce]at ho
   split at hc
   ·rename_i e ht
    simp only[Option.map_eq_some_iff]at hc
    obtain⟨x',hx,rfl⟩:=hc
    simp only[eM,Option.map_eq_some_iff,Prod.mk.injEq]at hq
    obtain⟨n,hn,rfl,rfl⟩:=hq
    exact WS E ho ht hx hn
   ·rename_i ht
    simp only[Option.map_eq_some_iff]at hc
    obtain⟨x',hx,rfl⟩:=hc
    exact mu hq fun h=>TQ E ho ht hx h
   ·split at hc
    ·rename_i m z x' hm hx
     simp only[Option.some.injEq]at hc
     subst hc
     obtain⟨rfl,h⟩:=TX (id:=id) S E ho hm hx hq
     exact h
    ·cases hc
   ·rename_i ht
    simp only[Option.map_eq_some_iff]at hc
    obtain⟨x',hx,rfl⟩:=hc
    exact mu hq fun h=>TP S E ho ht hx h
   ·simp at hc
  ·simp at hc
 ·split at hc
  ·split at hc
   ·split at hc
    ·split at hc
     ·simp only[Option.bind_eq_bind,Option.bind_eq_some_iff,Option.pure_def,Option.some.injEq]at hc
      obtain⟨x',hx,y',hy,rfl⟩:=hc
      simp[eM]at hq
     ·simp at hc
    ·simp at hc
   ·simp at hc
  ·simp at hc
 ·split at hc
  ·split at hc
   ·split at hc
    ·simp only[Option.map_eq_some_iff]at hc
     obtain⟨x',hx,rfl⟩:=hc
     simp[eM]at hq
    ·simp at hc
   ·simp at hc
  ·simp at hc
 ·split at hc
  ·simp only[Option.map_eq_some_iff]at hc
   obtain⟨x',hx,rfl⟩:=hc
   simp[eM]at hq
  ·simp at hc
 ·simp only[Option.map_eq_some_iff]at hc
  obtain⟨x',hx,rfl⟩:=hc
  simp[eM]at hq
 ·split at hc
  ·split at hc
   ·simp only[Option.some.injEq]at hc
    subst hc
    simp[eM]at hq
   ·cases hc
  ·cases hc
 ·split at hc
  ·split at hc
   ·split at hc
    ·simp only[Option.bind_eq_bind,Option.bind_eq_some_iff,Option.pure_def,Option.some.injEq]at hc
     obtain⟨x',hx,y',hy,rfl⟩:=hc
     simp[eM]at hq
    ·simp at hc
   ·simp at hc
  ·simp at hc
 ·simp at hc
theorem AJ {vo:gV} {mr:Option Row} (hc:sq P o.op=some vo) (hq:eM vo (dc env) g id=some (v,mr)) (S:gR P hs D ι g w) (E:cD P w D ι env a):Og P a o w D ι id v mr:=by
 unfold sq at hc
 split at hc
 ·rename_i ho
  simp only[Option.map_eq_some_iff]at hc
  obtain⟨x',hx,rfl⟩:=hc
  simp[eM]at hq;obtain⟨rfl,rfl⟩:=hq
  exact Rg E (.inl ho) hx
 ·rename_i ho
  simp only[Option.map_eq_some_iff]at hc
  obtain⟨x',hx,rfl⟩:=hc
  simp[eM]at hq;obtain⟨rfl,rfl⟩:=hq
  exact Rg E (.inr ho) hx
 ·rename_i ho
  simp only[Option.bind_eq_bind,Option.bind_eq_some_iff,Option.pure_def,Option.some.injEq]at hc
  obtain⟨c',h1,x',h2,y',h3,rfl⟩:=hc
  exact mu hq fun h=>TY E ho h1 h2 h3 h
 ·rename_i ho
  simp only[Option.map_eq_some_iff]at hc
  obtain⟨z,hz,rfl⟩:=hc
  simp only[eM,Option.some.injEq,Prod.mk.injEq]at hq
  obtain⟨rfl,rfl⟩:=hq
  exact .inl (Wm ho hz)
 ·rename_i ho
  simp only[Option.map_eq_some_iff]at hc
  obtain⟨x',hx,rfl⟩:=hc
  simp only[eM,Option.map_eq_some_iff,Prod.mk.injEq]at hq
  obtain⟨cs,dx,rfl,rfl⟩:=hq
  exact .inl (Wk E ho hx dx)
 ·rename_i ho
  simp only[Option.bind_eq_bind,Option.bind_eq_some_iff,Option.pure_def,Option.some.injEq]at hc
  obtain⟨ag,h1,n,h2,x',h3,rfl⟩:=hc
  exact mu hq fun h=>TR S E ho h1 h2 h3 h
 ·rename_i ho
  simp only[Option.bind_eq_bind,Option.bind_eq_some_iff,Option.pure_def,Option.some.injEq]at hc
  obtain⟨n,h2,x',h3,y',h4,rfl⟩:=hc
  simp[eM]at hq
 ·rename_i ho
  simp only[Option.map_eq_some_iff]at hc
  obtain⟨x',hx,rfl⟩:=hc
  exact mu hq fun h=>WN E ho hx h
 ·rename_i op t x y yt ho
  unfold xr at hc
  split at hc
  ·exact Wu (neg:=false) ho hc hq E
  ·exact Wu (neg:=true) ho hc hq E
  ·simp only[Option.bind_eq_bind,Option.bind_eq_some_iff,Option.pure_def,Option.some.injEq]at hc
   obtain⟨x',h3,y',h4,rfl⟩:=hc
   exact mu hq fun h=>WV (left:=true) E ho h3 h4 h
  ·simp only[Option.bind_eq_bind,Option.bind_eq_some_iff,Option.pure_def,Option.some.injEq]at hc
   obtain⟨x',h3,y',h4,rfl⟩:=hc
   exact mu hq fun h=>WV (left:=false) E ho h3 h4 h
  ·rename_i n1 n2 n3 n4
   split at hc
   ·simp only[Option.bind_eq_bind,Option.bind_eq_some_iff,Option.pure_def,Option.some.injEq]at hc
    obtain⟨x',h3,y',h4,rfl⟩:=hc
    exact mu hq fun h=>WM E ho n1 n2 h3 h4 h
   ·simp only[Option.bind_eq_bind,Option.bind_eq_some_iff,Option.pure_def,Option.some.injEq]at hc
    obtain⟨x',h3,y',h4,rfl⟩:=hc
    exact mu hq fun h=>TH E ho n1 n2 h3 h4 h
   ·simp at hc
 ·rename_i ho
  simp only[Option.map_eq_some_iff]at hc
  obtain⟨x',hx,rfl⟩:=hc
  exact mu hq fun h=>WU E ho hx h
 ·rename_i ho
  simp only[Option.map_eq_some_iff]at hc
  obtain⟨x',hx,rfl⟩:=hc
  exact mu hq fun h=>WT E ho hx h
 ·rename_i ho
  split at hc
  ·rename_i q k h1 h2
   simp only[Option.map_eq_some_iff]at hc
   obtain⟨x',hx,rfl⟩:=hc
   exact mu hq fun h=>TI E ho h1 h2 hx h
  ·rename_i h1 h2
   simp only[Option.map_eq_some_iff]at hc
   obtain⟨x',hx,rfl⟩:=hc
   exact mu hq fun h=>by
    have hr:=dw E hx
    unfold bU at h
    split at h
    ·rename_i s hb
     simp at h;subst h
     rw[hb]at hr
     exact⟨.string s,by simp only[execOp,ho,gi hr,convert,Sem.run_bind,run_underlying h1,run_underlying h2,Result.andThen_ok,Sem.run_pure],.eV _ _ (.str _)⟩
    ·simp at h
  ·simp at hc
 ·rename_i ho
  split at hc
  ·rename_i e ht
   simp only[Option.bind_eq_bind,Option.bind_eq_some_iff,Option.pure_def,Option.some.injEq]at hc
   obtain⟨n,h1,x',h2,lo,h3,hi,h4,rfl⟩:=hc
   exact mu hq fun h=>Qq S E ho ht h1 h2 h3 h4 h
  ·rename_i ht
   simp only[Option.bind_eq_bind,Option.bind_eq_some_iff,Option.pure_def,Option.some.injEq]at hc
   obtain⟨x',h2,lo,h3,hi,h4,rfl⟩:=hc
   exact mu hq fun h=>NN E ho ht h2 h3 h4 h
  ·simp at hc
 ·rename_i ho
  split at hc
  ·rename_i fs s6
   split at hc
   ·rename_i f hf
    split at hc
    ·rename_i m hm
     simp only[Option.map_eq_some_iff]at hc
     obtain⟨x',hx,rfl⟩:=hc
     exact mu hq fun h=>Qn E ho s6 hf hm hx h
    ·simp at hc
   ·simp at hc
  ·simp at hc
 ·rename_i ho
  split at hc
  ·rename_i fs s6
   split at hc
   ·rename_i f hf
    simp only[Option.bind_eq_bind,Option.bind_eq_some_iff,Option.pure_def,Option.some.injEq]at hc
    obtain⟨ag,h1,n,h2,x',h3,rfl⟩:=hc
    exact mu hq fun h=>Qo E ho s6 hf h1 h2 h3 h
   ·simp at hc
  ·simp at hc
 ·rename_i ho
  split at hc
  ·rename_i e ht
   split at hc
   ·rename_i m hm
    simp only[Option.bind_eq_bind,Option.bind_eq_some_iff,Option.pure_def,Option.some.injEq]at hc
    obtain⟨x',h1,i',h2,rfl⟩:=hc
    exact mu hq fun h=>Qp S E ho ht hm h1 h2 h
   ·simp at hc
  ·rename_i len e ht
   split at hc
   ·rename_i m hm
    simp only[Option.bind_eq_bind,Option.bind_eq_some_iff,Option.pure_def,Option.some.injEq]at hc
    obtain⟨x',h1,i',h2,rfl⟩:=hc
    exact mu hq fun h=>TL E ho ht hm h1 h2 h
   ·simp at hc
  ·simp at hc
 ·rename_i ho
  split at hc
  ·rename_i ht
   simp only[Option.bind_eq_bind,Option.bind_eq_some_iff,Option.pure_def,Option.some.injEq]at hc
   obtain⟨x',h1,i',h2,rfl⟩:=hc
   exact mu hq fun h=>TN E ho ht h1 h2 h
  ·rename_i len e ht
   simp only[Option.bind_eq_bind,Option.bind_eq_some_iff,Option.pure_def,Option.some.injEq]at hc
   obtain⟨ag,h0,n,h1,x',h2,i',h3,rfl⟩:=hc
   exact mu hq fun h=>TM E ho ht h0 h1 h2 h3 h
  ·simp at hc
 ·rename_i ho
  simp only[Option.map_eq_some_iff]at hc
  obtain⟨x',hx,rfl⟩:=hc
  exact mu hq fun h=>Kr E ho hx h
 ·rename_i ho
  split at hc
  ·rename_i fs s6
   split at hc
   ·rename_i z l hz hl
    split at hc
    ·rename_i dP
     simp only[Option.map_eq_some_iff]at hc
     obtain⟨q,Pd,rfl⟩:=hc
     simp only[eM,Option.map_eq_some_iff,Prod.mk.injEq]at hq
     obtain⟨cs,dx,rfl,rfl⟩:=hq
     exact Qm E ho s6 hz hl (fun f hf=>by
      rw[Array.all_eq_true_iff_forall_mem]at dP
      exact dP f (Array.mem_toList_iff.1 hf)) Pd dx
    ·simp at hc
   ·simp at hc
  ·rename_i len e ht
   split at hc
   ·rename_i z l n hz hl hn
    simp only[Option.some.injEq]at hc
    subst hc
    simp only[eM,Option.map_eq_some_iff,Prod.mk.injEq]at hq
    obtain⟨cs,dx,rfl,rfl⟩:=hq
    exact NM E ho ht hz hl hn dx
   ·simp at hc
  ·simp at hc
 ·rename_i ho
  split at hc
  ·rename_i e ht
   split at hc
   ·rename_i sz z l h1 h2 h3
    split at hc
    ·rename_i hh
     simp only[Option.some.injEq]at hc
     subst hc
     simp only[eM,Option.map_eq_some_iff,Prod.mk.injEq]at hq
     obtain⟨rs,Aj,rfl,rfl⟩:=hq
     exact .inl (Mu E ho ht h1 h2 h3 hh.1 hh.2 (by rw[List.map_map]at Aj;exact Aj))
    ·simp at hc
   ·simp at hc
  ·simp at hc
 ·rename_i ho
  split at hc
  ·rename_i hh
   simp only[Option.map_eq_some_iff]at hc
   obtain⟨l,hl,rfl⟩:=hc
   simp[eM]at hq;obtain⟨rfl,rfl⟩:=hq
   exact TV E ho hh.1 hh.2 hl
  ·split at hc
   ·rename_i hh
    simp only[Option.map_eq_some_iff]at hc
    obtain⟨l,hl,rfl⟩:=hc
    simp[eM]at hq;obtain⟨rfl,rfl⟩:=hq
    exact TW E ho hh.1 hh.2 hl
   ·simp at hc
 ·rename_i ho
  split at hc
  ·rename_i e ht
   split at hc
   ·rename_i m z i h1 h2 h3
    split at hc
    ·rename_i hb
     simp only[Option.bind_eq_bind,Option.bind_eq_some_iff,Option.pure_def,Option.some.injEq]at hc
     obtain⟨l',h4,c',h5,rfl⟩:=hc
     simp only[eM,Option.map_eq_some_iff,Prod.mk.injEq]at hq
     obtain⟨⟨n,r⟩,hr,rfl,rfl⟩:=hq
     exact .inl (JB E ho ht h1 h2 h3 hb h4 h5 hr)
    ·simp at hc
   ·simp at hc
  ·simp at hc
 ·rename_i ho
  exact Tk ho hc hq S E
 ·rename_i ho
  split at hc
  ·rename_i dir e ht
   split at hc
   ·rename_i i hi
    split at hc
    ·rename_i hb
     simp only[Option.map_eq_some_iff]at hc
     obtain⟨x',hx,rfl⟩:=hc
     simp only[eM,Option.map_eq_some_iff,Prod.mk.injEq]at hq
     obtain⟨n,hn,rfl,rfl⟩:=hq
     exact .inr (.inr (Td E ho ht hi hb hx hn))
    ·cases hc
   ·cases hc
  ·cases hc
 ·simp only[Option.bind_eq_bind,Option.bind_eq_some_iff,Option.pure_def,Option.some.injEq]at hc
  obtain⟨x',_,y',_,rfl⟩:=hc
  simp[eM]at hq
 ·split at hc
  ·split at hc
   ·simp only[Option.map_eq_some_iff]at hc
    obtain⟨x',_,rfl⟩:=hc
    simp[eM]at hq
   ·cases hc
  ·cases hc
 ·rename_i ho
  split at hc
  ·rename_i m z hm
   simp only[Option.some.injEq]at hc
   subst hc
   simp only[eM,List.map_nil,bD,Option.some.injEq,Prod.mk.injEq]at hq
   obtain⟨rfl,rfl⟩:=hq
   exact .inr (.inl (Wl ho))
  ·cases hc
 ·rename_i ho
  split at hc
  ·rename_i m z x' k' hm hx hk
   simp only[Option.some.injEq]at hc
   subst hc
   obtain⟨rfl,h⟩:=TU (id:=id) S E ho hm hx hk hq
   exact h
  ·cases hc
 ·split at hc
  ·simp only[Option.some.injEq]at hc
   subst hc
   simp[eM]at hq
  ·cases hc
 ·split at hc
  ·simp only[Option.some.injEq]at hc
   subst hc
   simp[eM]at hq
  ·cases hc
 ·simp only[Option.some.injEq]at hc
  subst hc
  simp[eM]at hq
 ·simp only[Option.some.injEq]at hc
  subst hc
  simp[eM]at hq
 ·simp at hc
end
end Go.Proofs.YtgoljkjaameagaaGreat.V

namespace Go.Proofs.YtgoljkjaameagaaGreat.V
open Go.RowKit
variable {P:Program} {w w':World} {D D':Nat->Prop} {ι ι':Names}
def kW (ι:Names) (id:Id) (B:uf):Names:=fun i=>if i=id then some B else ι i
theorem ev (ι:Names) (id:Id) (B:uf):kW ι id B id=some B:=if_pos rfl
theorem fj {ι:Names} {id:Id} {B:uf} (h:ι id=none):∀i B',ι i=some B'->kW ι id B i=some B':=fun i B' hi=>by
 have:i≠id:=by rintro rfl;rw[h]at hi;cases hi
 rw[kW,if_neg this];exact hi
theorem gQ {ι:Names} {id i:Id} {B:uf} (h:i≠id):kW ι id B i=ι i:=if_neg h
section
variable {g:Rows} {hs:Nat} {env:Env} {a:Act} {o:Oper} {id:Id} {v:AV}
theorem lL.frame {B:uf} {r:Row} (h:lL P w D ι B r) (hb:w'.heap[B.b]? =w.heap[B.b]?) (hr:∀a v,dd P w D ι a v->dd P w' D' ι' a v):lL P w' D' ι' B r:=
 ⟨h.sz,by obtain⟨c,T,h1,h2⟩:=h.tV;exact⟨c,T,hb.trans h1,h2⟩,h.fits,h.len,h.flat,fun i j cs a hi hj=>by
  obtain⟨v,h1,h2⟩:=h.at_ i j cs a hi hj
  exact⟨v,(World.cell?_of_block (a:=⟨B.b,i*r.sz+j,none⟩) hb).trans h1,hr _ _ h2⟩⟩
theorem iF.frame {B:uf} {r:Row} (h:iF P w D ι B r) (hb:w'.heap[B.b]? =w.heap[B.b]?) (hr:∀a v,dd P w D ι a v->dd P w' D' ι' a v):iF P w' D' ι' B r:=
 ⟨h.sz,h.flat,fun hk=>(h.row hk).frame hb hr,fun m hm=>by
  obtain⟨h1,es,c,h2,h3,h5,h4⟩:=h.map m hm
  refine⟨h1,es,c,hb.trans h2,h3,h5,fun i cs hi=>?_⟩
  obtain⟨e,kv,vv,q1,q2,q3,q4,q5⟩:=h4 i cs hi
  exact⟨e,kv,vv,q1,q2,q3,hr _ _ q4,hr _ _ q5⟩,fun c hc=>by
  obtain⟨h1,buf,s,q,h2,h3,h4⟩:=h.chan c hc
  refine⟨h1,buf,s,q,hb.trans h2,h3,fun i cs hi=>?_⟩
  obtain⟨a,u,q1,q2,q3⟩:=h4 i cs hi
  exact⟨a,u,q1,q2,hr _ _ q3⟩⟩
theorem gR.kill (S:gR P hs D ι g w) (i:Id):gR P hs D ι (cj g i) w:=by
 refine⟨S.lo,S.dead,fun id r h=>?_,fun id kE r r' B B' h h' hw hB dL hb=>?_⟩
 ·unfold cj at h;split at h
  ·cases h
  ·exact S.row id r h
 ·unfold cj at h h'
  split at h
  ·cases h
  ·split at h'
   ·cases h'
   ·exact S.inj id kE r r' B B' h h' hw hB dL hb
theorem gR.sub {g':Rows} (S:gR P hs D ι g w) (h:∀id r,g' id=some r->g id=some r):gR P hs D ι g' w:=
 ⟨S.lo,S.dead,fun id r hr=>S.row id r (h id r hr),fun id kE r r' B B' h1 h2=>S.inj id kE r r' B B' (h _ _ h1) (h _ _ h2)⟩
theorem Ct {hid:List Nat} {n:Nat} {g:Rows}:∀id r,fS hid n g id=some r->g id=some r:=fun id r h=>by
 cases hid with
 |nil=>exact h
 |cons a l=>
  have e:fS (a::l) n g id=if (a::l).contains id.site=true/\id.bj=n then none else g id:=rfl
  rw[e]at h
  by_cases hc:(a::l).contains id.site=true/\id.bj=n
  ·rw[if_pos hc]at h;cases h
  ·rw[if_neg hc]at h;exact h
theorem gR.stay (S:gR P hs D ι g w) (hb:∀b,b<w.heap.size->w'.heap[b]? =w.heap[b]?) (hz:w.heap.size<=w'.heap.size) (hD:∀b,D b->D' b) (hD':∀b,D' b->b<w'.heap.size) (k8:∀b,D' b->D b∨w.heap.size<=b) (hι:∀id B,ι id=some B->ι' id=some B):gR P hs D' ι' g w':=by
 have hr:∀a v,dd P w D ι a v->dd P w' D' ι' a v:=fun a v h=>h.frame (fun b hd=>hb b (S.dead b hd)) hD hι
 have lt:∀{id r B},g id=some r->ι id=some B->B.b<w.heap.size:=fun {id r B} h hB=>by
  obtain⟨B',dL,R,_⟩:=S.row id r h
  rw[hB]at dL;injection dL with dL;subst dL
  exact R.lt
 refine⟨Nat.le_trans S.lo hz,hD',fun id r h=>?_,fun id kE r r' B B' h h' hw hB dL he=>?_⟩
 ·obtain⟨B,hB,R,h1,h2⟩:=S.row id r h
  exact⟨B,hι _ _ hB,R.frame (hb _ (lt h hB)) hr,h1,fun hw hd=>by
   rcases k8 _ hd with hd|hd
   ·exact h2 hw hd
   ·have:=lt h hB;omega⟩
 ·obtain⟨C,hC,_⟩:=S.row id r h
  obtain⟨C',wH,_⟩:=S.row kE r' h'
  have e1:=hι _ _ hC
  have e2:=hι _ _ wH
  rw[hB]at e1;injection e1 with e1;subst e1
  rw[dL]at e2;injection e2 with e2;subst e2
  exact S.inj id kE r r' _ _ h h' hw hC wH he
theorem Step.stay (S:gR P hs D ι g w) (hb:∀b,b<w.heap.size->w'.heap[b]? =w.heap[b]?) (hz:w.heap.size<=w'.heap.size) (e1:w'.os=w.os) (e2:w'.tape=w.tape) (e3:w'.output=w.output) (hD:∀b,D b->D' b) (k8:∀b,D' b->D b∨w.heap.size<=b) (hι:∀id B,ι id=some B->ι' id=some B):Step hs D ι w D' ι' w':=
 ⟨⟨e1,e2,e3,hz,fun k hk=>hb k (Nat.lt_of_lt_of_le hk S.lo)⟩,fun b hd=>hb b (S.dead b hd),hD,hι,fun b h=>(k8 b h).imp_right (Nat.le_trans S.lo)⟩
theorem gR.alloc (S:gR P hs D ι g w) {cells:Array Value} {T:TypeId} {r:Row} (hh:w'.heap=w.heap.push (.cells cells T (0,0))) (hn:ι id=none) (hw:r.w=true) (h1:r.rows.length*r.sz<=cells.size) (h2:∀cs∈r.rows,cs.length=r.sz) (h3:∀cs∈r.rows,∀a∈cs,a.cell=true)
  (h4:∀i j cs a,r.rows[i]? =some cs->cs[j]? =some a->∃x,cells[i*r.sz+j]? =some x/\dd P w D ι a x):gR P hs D (kW ι id ⟨w.heap.size,r.sz,cells.size,none⟩) (bE g id r) w':=by
 have hb:∀b,b<w.heap.size->w'.heap[b]? =w.heap[b]? :=fun b ei=>by rw[hh,Array.getElem?_push,if_neg ah]
 have hz:w.heap.size<=w'.heap.size:=by rw[hh];simp
 have S':=S.stay (D':=D) (ι':=kW ι id ⟨w.heap.size,r.sz,cells.size,none⟩) hb hz (fun _ h=>h) (fun b hd=>Nat.lt_of_lt_of_le (S.dead b hd) hz) (fun _ h=>.inl h) (fj hn)
 have hr:∀a v,dd P w D ι a v->dd P w' D (kW ι id ⟨w.heap.size,r.sz,cells.size,none⟩) a v:=fun a v h=>h.frame (fun b hd=>hb b (S.dead b hd)) (fun _ h=>h) (fj hn)
 have k8:w'.heap[w.heap.size]? =some (.cells cells T (0,0)):=by rw[hh];simp
 have gone:g id=none:=by
  cases hg:g id with
  |none=>rfl
  |some q=>
   obtain⟨B,hB,_⟩:=S.row id q hg
   rw[hn]at hB;cases hB
 have lt:∀{i q B},g i=some q->ι i=some B->B.b<w.heap.size:=fun {i q B} h hB=>by
  obtain⟨B',dL,R,_⟩:=S.row i q h
  rw[hB]at dL;injection dL with dL;subst dL
  exact R.lt
 refine⟨S'.lo,S'.dead,fun i q h=>?_,fun i i' q q' B B' h h' L6 hB dL he=>?_⟩
 ·unfold bE at h
  split at h
  ·rename_i e
   subst e
   injection h with h;subst h
   refine⟨_,ev _ _ _,lL.obj ⟨rfl,⟨cells,T,k8,rfl⟩,h1,h2,h3,fun k j cs a hk hj=>?_⟩ rfl,fun _=>S.lo,fun _ hd=>?_⟩
   ·obtain⟨x,hx,hrx⟩:=h4 k j cs a hk hj
    exact⟨x,by simp[World.cell?,k8,hx],hr _ _ hrx⟩
   ·have:=S.dead _ hd;simp at this
  ·exact S'.row i q h
 ·unfold bE at h h'
  split at h
  ·rename_i e
   split at h'
   ·rename_i e';exact e.trans e'.symm
   ·exfalso
    rename_i e'
    subst e
    rw[ev]at hB;injection hB with hB;subst hB
    rw[gQ e']at dL
    have:=lt h' dL
    simp at he;omega
  ·rename_i e
   split at h'
   ·exfalso
    rename_i e'
    subst e'
    rw[ev]at dL;injection dL with dL;subst dL
    rw[gQ e]at hB
    have:=lt h hB
    simp at he;omega
   ·exact S'.inj i i' q q' B B' h h' L6 hB dL he
theorem gR.put (S:gR P hs D ι g w) {r r':Row} {B:uf} {cur cur':Array Value} {T:TypeId} (hid:g id=some r) (hw:r.w=true) (hB:ι id=some B) (hblk:w.heap[B.b]? =some (.cells cur T (0,0))) (fm:cur'.size=cur.size)
  (h0:r'.w=true) (h1:r'.sz=r.sz) (h2:r'.rows.length*r'.sz<=B.C) (h3:∀cs∈r'.rows,cs.length=r'.sz) (h4:∀cs∈r'.rows,∀a∈cs,a.cell=true)
  (h5:∀i j cs a,r'.rows[i]? =some cs->cs[j]? =some a->∃v,cur'[i*r.sz+j]? =some v/\dd P w D ι a v):gR P hs D ι (bE g id r') (w.setRow B.b cur')/\Step hs D ι w D ι (w.setRow B.b cur'):=by
 obtain⟨B0,y7,RO,j6,lk⟩:=S.row id r hid
 rw[hB]at y7;injection y7 with y7;subst y7
 have s8:=RO.PM hblk
 have R:=RO.row s8
 have hd:∀b,D b->(w.setRow B.b cur').heap[b]? =w.heap[b]? :=fun b hb=>setRow_other w B.b b cur' (by rintro rfl;exact lk hw hb)
 have hr:∀a v,dd P w D ι a v->dd P (w.setRow B.b cur') D ι a v:=fun a v h=>h.frame hd (fun _ h=>h) (fun _ _ h=>h)
 have hC:cur.size=B.C:=by
  obtain⟨c,T',h1,h2⟩:=R.tV
  rw[hblk]at h1;injection h1 with h1;injection h1 with h1 QD;subst h1;exact h2
 refine⟨⟨by simpa using S.lo,fun b hb=>by simpa using S.dead b hb,fun i q h=>?_,fun i i' q q' C C' h h' L6 hC wH he=>?_⟩,⟨⟨by simp,by simp,by simp,by simp,fun k hk=>setRow_other w B.b k cur' (by have:=j6 hw;omega)⟩,hd,fun _ h=>h,fun _ _ h=>h,fun _ h=>.inl h⟩⟩
 ·unfold bE at h
  split at h
  ·rename_i e
   subst e
   injection h with h;subst h
   refine⟨B,hB,lL.obj ⟨by rw[h1];exact R.sz,⟨cur',T,setRow_heap w B.b cur cur' T _ hblk,by rw[fm];exact hC⟩,h2,h3,h4,fun k j cs a hk hj=>?_⟩ s8,fun _=>j6 hw,fun _=>lk hw⟩
   obtain⟨v,hv,mE⟩:=h5 k j cs a hk hj
   exact⟨v,by rw[cell_setRow_same w B.b _ cur cur' T _ hblk,h1];exact hv,hr _ _ mE⟩
  ·rename_i e
   obtain⟨C,hC,RC,k1,k2⟩:=S.row i q h
   refine⟨C,hC,RC.frame (setRow_other w B.b C.b cur' (fun QK=>e ?_)) hr,k1,k2⟩
   exact(S.inj id i r q B C hid h hw hB hC QK.symm).symm
 ·unfold bE at h h'
  have get:∀j p,(if j=id then some r' else g j)=some p->∃p0,g j=some p0/\(p.w=true->p0.w=true):=fun j p hp=>by
   split at hp
   ·rename_i e;subst e;injection hp with hp;subst hp;exact⟨r,hid,fun _=>hw⟩
   ·exact⟨p,hp,fun h=>h⟩
  obtain⟨p,hp,Uo⟩:=get _ _ h
  obtain⟨p',SJ,_⟩:=get _ _ h'
  exact S.inj i i' p p' C C' hp SJ (Uo L6) hC wH he
theorem gR.rename (S:gR P hs D ι g w) {i:Id} {r:Row} {B:uf} (hi:g i=some r) (hw:r.w=true) (hB:ι i=some B) (hn:ι id=none):gR P hs D (kW ι id B) (bE (cj g i) id r) w:=by
 have S':=S.stay (w':=w) (D':=D) (ι':=kW ι id B) (fun _ _=>rfl) (Nat.le_refl _) (fun _ h=>h) S.dead (fun _ h=>.inl h) (fj hn)
 have iD:i≠id:=by rintro rfl;rw[hn]at hB;cases hB
 obtain⟨B1,CD,R,k1,k2⟩:=S'.row i r hi
 rw[gQ iD,hB]at CD;injection CD with CD;subst CD
 have get:∀j p,bE (cj g i) id r j=some p->(j=id/\p=r)∨(j≠id/\j≠i/\g j=some p):=fun j p hp=>by
  unfold bE cj at hp
  split at hp
  ·rename_i e;injection hp with hp;exact .inl ⟨e,hp.symm⟩
  ·rename_i e
   split at hp
   ·cases hp
   ·rename_i e';exact .inr ⟨e,e',hp⟩
 refine⟨S.lo,S.dead,fun j p h=>?_,fun j j' p p' C C' h h' Uo hC wH he=>?_⟩
 ·rcases get j p h with⟨rfl,rfl⟩|⟨_,_,hp⟩
  ·exact⟨B,ev _ _ _,R,k1,k2⟩
  ·exact S'.row j p hp
 ·rcases get j p h with⟨rfl,rfl⟩|⟨q1,q2,hp⟩
  ·rcases get j' p' h' with⟨rfl,rfl⟩|⟨q1',q2',SJ⟩
   ·rfl
   ·exfalso
    rw[ev]at hC;injection hC with hC;subst hC
    rw[gQ q1']at wH
    exact q2' (S.inj i j' p p' B C' hi SJ hw hB wH he).symm
  ·rcases get j' p' h' with⟨rfl,rfl⟩|⟨q1',q2',SJ⟩
   ·exfalso
    rw[ev]at wH;injection wH with wH;subst wH
    rw[gQ q1]at hC
    exact q2 (S.inj j i p p' C B hp hi Uo hC hB he)
   ·rw[gQ q1]at hC
    rw[gQ q1']at wH
    exact S.inj j j' p p' C C' hp SJ Uo hC wH he
def Fi (P:Program) (hs:Nat) (a:Act) (o:Oper) (w:World) (D:Nat->Prop) (ι:Names) (id:Id) (v:AV) (g':Rows):Prop:=
 ∃u w' ι',((execOp a.eval o).run P w=.ok (.value u) w'∨(execOp a.eval o).run P w=.ok .skip w'/\u=undef)/\Step hs D ι w D ι' w'/\gR P hs D ι' g' w'/\dd P w' D ι' v u/\∀i,i≠id->ι' i=ι i
theorem ED {xs:List AV} {vs:Array Value} (h:fG P w D ι xs vs) (hf:∀a∈xs,a.cell=true):∀v∈vs.toList,v.oneCell'=true:=by
 intro v hv
 obtain⟨j,hj,rfl⟩:=List.getElem_of_mem hv
 have N2:j<xs.length:=by rw[<-h.1];simpa using hj
 obtain⟨u,hu,hr⟩:=h.2 j _ (List.getElem?_eq_getElem N2)
 have hc:=hr.Da (hf _ (List.getElem_mem N2))
 have:vs.toList[j]=u:=by
  have:vs.toList[j]? =some u:=by simpa using hu
  rw[List.getElem?_eq_getElem hj]at this;injection this
 rw[this]
 cases u<;>simp_all [Value.oneCell']
theorem kn {i j n m:Nat} (h:i<n) (hj:j<m):i*m+j<n*m:=by
 have:(i+1)*m<=n*m:=Nat.mul_le_mul_right _ h
 rw[Nat.add_mul,Nat.one_mul]at this;omega
theorem lL.cur {B:uf} {r:Row} (R:lL P w D ι B r):∃cur T,w.heap[B.b]? =some (.cells cur T (0,0))/\cur.size=B.C/\∀i j cs a,r.rows[i]? =some cs->cs[j]? =some a->∃v,cur[i*r.sz+j]? =some v/\dd P w D ι a v:=by
 obtain⟨cur,T,h1,h2⟩:=R.tV
 refine⟨cur,T,h1,h2,fun i j cs a hi hj=>?_⟩
 obtain⟨v,hv,hr⟩:=R.at_ i j cs a hi hj
 exact⟨v,by simpa[World.cell?,h1]using hv,hr⟩
theorem OB {t:TypeId} {n:Nat} {x y:Operand} {x' y':O} {g':Rows} (S:gR P hs D ι g w) (E:cD P w D ι env a) (ho:o.op=.store t x y) (hn:eC P t=some n) (hx:cO P x=some x') (hy:cO P y=some y')
  (hv:bQ g n (dc env y') (dc env x')=some g'):Fi P hs a o w D ι id .undef g':=by
 have rx:=dw E hx
 have ry:=dw E hy
 unfold bQ at hv
 split at hv
 ·rename_i i k off hp
  rw[hp]at rx
  simp only[Option.bind_eq_some_iff]at hv
  obtain⟨r,hg,cs,dx,hv⟩:=hv
  split at hv
  ·rename_i hc
   obtain⟨c1,c2,c3,c4⟩:=hc
   simp at hv;subst hv
   obtain⟨B,he,hB,hk⟩:=iN rx
   obtain⟨B',dL,R,j6,lk⟩:=S.row i r hg
   rw[hB]at dL;injection dL with dL;subst dL
   replace R:=R.row hk
   obtain⟨cur,T,hblk,hC,xQ⟩:=R.cur
   have hL:=si ry c3
   have h1:=ED hL (List.all_eq_true.1 c3)
   have Pj:(a.eval y).cells.size=n:=by rw[hL.1,c2]
   have lj:=(List.getElem?_eq_some_iff.1 dx).1
   have hlen:=R.len cs (List.mem_of_getElem? dx)
   have hbound:k*r.sz+r.sz<=r.rows.length*r.sz:=by
    have:(k+1)*r.sz<=r.rows.length*r.sz:=Nat.mul_le_mul_right _ lj
    rwa [Nat.add_mul,Nat.one_mul]at this
   have hf:=R.fits
   have dC:=run_storeCells_at P B.b (k*B.sz+off) T (a.eval y).cells.toList 0 cur w hblk (by rw[R.sz];simp only[Array.length_toList];omega) h1
   simp only[Nat.add_zero,Array.length_toList]at dC
   have pb:=S.put (r':={r with rows:=r.rows.set k (cG cs off (dc env y').cells)}) hg c1 hB hblk (cur':=(cur.toList.take (k*B.sz+off)++(a.eval y).cells.toList++cur.toList.drop (k*B.sz+off+(a.eval y).cells.size)).toArray)
    (by rw[R.sz];simp;omega) c1 rfl (by simpa using R.fits) (fun c Vs=>by
     rcases List.mem_or_eq_of_mem_set Vs with h|rfl
     ·exact R.len c h
     ·simp[cG];omega) (fun c Vs b hb=>by
     rcases List.mem_or_eq_of_mem_set Vs with h|rfl
     ·exact R.flat c h b hb
     ·unfold cG at hb
      rcases List.mem_append.1 hb with hb|hb
      ·rcases List.mem_append.1 hb with hb|hb
       ·exact R.flat cs (List.mem_of_getElem? dx) b (List.mem_of_mem_take hb)
       ·exact List.all_eq_true.1 c3 b hb
      ·exact R.flat cs (List.mem_of_getElem? dx) b (List.mem_of_mem_drop hb)) (fun i2 j c b su hj=>by
     rw[R.sz]
     simp only[List.getElem?_toArray]
     by_cases Af:i2=k
     ·subst Af
      rw[List.getElem?_set_self lj]at su
      injection su with su;subst su
      unfold cG at hj
      by_cases hjo:j<off
      ·rw[List.append_assoc,List.getElem?_append_left (by simp;omega),List.getElem?_take,if_pos hjo]at hj
       rw[List.append_assoc,List.getElem?_append_left (by simp;omega),List.getElem?_take,if_pos ah]
       simpa using xQ _ _ _ _ dx hj
      ·by_cases ga:j<off+n
       ·rw[List.append_assoc,List.getElem?_append_right (by simp;omega),List.getElem?_append_left (by simp;omega)]at hj
        rw[List.append_assoc,List.getElem?_append_right (by simp;omega),List.getElem?_append_left (by simp;omega)]
        simp only[List.length_take]at hj ⊢
        rw[show j-min off cs.length=j-off by omega]at hj
        rw[show i2*r.sz+j-min (i2*r.sz+off) cur.toList.length=j-off by simp;omega]
        simpa using hL.2 _ _ hj
       ·rw[List.getElem?_append_right (by simp;omega)]at hj
        rw[List.getElem?_append_right (by simp;omega)]
        simp only[List.length_append,List.length_take,List.getElem?_drop,Array.length_toList]at hj ⊢
        rw[show off+(dc env y').cells.length+(j-(min off cs.length+(dc env y').cells.length))=j by omega]at hj
        rw[show i2*r.sz+off+(a.eval y).cells.size+(i2*r.sz+j-(min (i2*r.sz+off) cur.size+(a.eval y).cells.size))=i2*r.sz+j by omega]
        simpa using xQ _ _ _ _ dx hj
     ·rw[List.getElem?_set_ne (fun e=>Af e.symm)]at su
      have hi2l:=(List.getElem?_eq_some_iff.1 su).1
      have gY:j<r.sz:=by rw[<-R.len c (List.mem_of_getElem? su)];exact(List.getElem?_eq_some_iff.1 hj).1
      have:=xQ _ _ _ _ su hj
      rcases Nat.lt_or_gt_of_ne Af with ei|O0
      ·have h2:i2*r.sz+j<k*r.sz:=kn ei gY
       rw[List.append_assoc,List.getElem?_append_left (by simp;omega),List.getElem?_take,if_pos ah]
       simpa using this
      ·have h2:k*r.sz+r.sz<=i2*r.sz:=by
        have:(k+1)*r.sz<=i2*r.sz:=Nat.mul_le_mul_right _ O0
        rwa [Nat.add_mul,Nat.one_mul]at this
       rw[List.getElem?_append_right (by simp;omega)]
       simp only[List.length_append,List.length_take,List.getElem?_drop,Array.length_toList]
       rw[show k*r.sz+off+(a.eval y).cells.size+(i2*r.sz+j-(min (k*r.sz+off) cur.size+(a.eval y).cells.size))=i2*r.sz+j by omega]
       simpa using this)
   refine⟨undef,_,ι,.inr ⟨?_,rfl⟩,pb.2,pb.1,dd.undef,fun _ _=>rfl⟩
   simp only[execOp,ho,he,Instr.storeAt,Instr.sureAddr,storeVar,Sem.run_bind,Sem.run_pure,Result.andThen_ok,run_sizeOf hn,Pj,ne_eq,not_true_eq_false,if_false,dC]
  ·simp at hv
 ·simp at hv
end
end Go.Proofs.YtgoljkjaameagaaGreat.V

namespace Go.Proofs.YtgoljkjaameagaaGreat.V
open Go.RowKit
variable {P:Program} {w w':World} {D D':Nat->Prop} {ι ι':Names}
section
variable {g:Rows} {hs:Nat} {env:Env} {a:Act} {o:Oper} {id:Id} {v:AV}
theorem tD (S:gR P hs D ι g w) {y:AV} {u:Value} {ys:List (List AV)} {sz:Nat} (hr:dd P w D ι y u) (hy:bw g y=some ys) (hl:∀c∈ys,c.length=sz) (hf:∀c∈ys,∀b∈c,b.cell=true):
  ∃A c,u=.slice A ys.length c/\(ys=[]∨∃b o,∃news:List Value,A=some ⟨b,o,none⟩/\news.length=ys.length*sz/\(∀j v,news[j]? =some v->w.cell? ⟨b,o+j,none⟩=some v)/\fG P w D ι ys.flatten news.toArray/\∀v∈news,v.oneCell'=true):=by
 have fin:∀b o,ys≠[]->(∀i j cs x,ys[i]? =some cs->cs[j]? =some x->∃v,w.cell? ⟨b,o+(i*sz+j),none⟩=some v/\dd P w D ι x v)->
   ∃news:List Value,news.length=ys.length*sz/\(∀j v,news[j]? =some v->w.cell? ⟨b,o+j,none⟩=some v)/\fG P w D ι ys.flatten news.toArray/\∀v∈news,v.oneCell'=true:=by
  intro b o _ h
  have hlen:=Lx hl
  have at_:∀k,k<ys.length*sz->∃x,ys.flatten[k]? =some x/\∃v,w.cell? ⟨b,o+k,none⟩=some v/\dd P w D ι x v:=by
   intro k hk
   have jO:0<sz:=by
    rcases Nat.eq_zero_or_pos sz with h0|h0
    ·subst h0;simp at hk
    ·exact h0
   have hi:k / sz<ys.length:=Nat.div_lt_of_lt_mul (by rw[Nat.mul_comm];exact hk)
   have hj:k % sz<sz:=Nat.mod_lt _ jO
   have dx:=List.getElem?_eq_getElem hi
   have gY:k % sz<ys[k / sz].length:=by rw[hl _ (List.getElem_mem hi)];exact hj
   have hx:=List.getElem?_eq_getElem gY
   have e:k / sz*sz+k % sz=k:=by rw[Nat.mul_comm];exact Nat.div_add_mod _ _
   refine⟨_,by rw[<-flat_get hl dx hx,e],?_⟩
   obtain⟨v,hv,mE⟩:=h _ _ _ _ dx hx
   rw[e]at hv
   exact⟨v,hv,mE⟩
  let news:=(List.range (ys.length*sz)).map fun k=>(w.cell? ⟨b,o+k,none⟩).getD undef
  have hn:∀k,k<ys.length*sz->∀v,w.cell? ⟨b,o+k,none⟩=some v->news[k]? =some v:=fun k hk v hv=>by
   simp only[news,List.getElem?_map,List.getElem?_range hk,Option.map_some,hv,Option.getD_some]
  have hR:fG P w D ι ys.flatten news.toArray:=⟨by simp[news,hlen],fun j x hx=>by
   have gY:=(List.getElem?_eq_some_iff.1 hx).1
   rw[hlen]at gY
   obtain⟨x',vK,v,hv,mE⟩:=at_ j gY
   rw[hx]at vK;injection vK with vK;subst vK
   exact⟨v,by simpa using hn j gY v hv,mE⟩⟩
  refine⟨news,by simp[news],fun j v hj=>?_,hR,?_⟩
  ·have gY:j<ys.length*sz:=by have:=(List.getElem?_eq_some_iff.1 hj).1;simpa[news]using this
   obtain⟨x,_,v',pc,_⟩:=at_ j gY
   rw[hn j gY v' pc]at hj
   injection hj with hj
   rw[<-hj];exact pc
  ·have:=ED hR (fun x hx=>by
    obtain⟨c,hc,hxc⟩:=List.mem_flatten.1 hx
    exact hf c hc x hxc)
   simpa using this
 unfold bw at hy
 split at hy
 ·simp at hy;subst hy
  exact⟨none,0,ji hr,.inl rfl⟩
 ·rename_i rows
  simp at hy;subst hy
  obtain⟨A,c,he,_,_,h3⟩:=yK hr
  refine⟨A,c,he,?_⟩
  rcases h3 with h3|⟨b,oo,sz',vs,rfl,hD,N5,_,hc,hi⟩
  ·exact .inl h3
  ·by_cases h0:rows=[]
   ·exact .inl h0
   ·have DP:sz'=sz:=by
     cases rows with
     |nil=>exact(h0 rfl).elim
     |cons c r=>rw[<-N5 c (by simp),hl c (by simp)]
    subst DP
    obtain⟨news,q1,q2,q3,q4⟩:=fin b oo h0 (fun i j cs x dx hx=>⟨_,hc i j (List.getElem?_eq_some_iff.1 dx).1 (by rw[<-N5 cs (List.mem_of_getElem? dx)];exact(List.getElem?_eq_some_iff.1 hx).1),.eV _ _ (hi i j cs x dx hx)⟩)
    exact .inr ⟨b,oo,news,rfl,q1,q2,q3,q4⟩
 ·rename_i i off len
  simp only[Option.bind_eq_some_iff]at hy
  obtain⟨r,hg,hy⟩:=hy
  split at hy
  ·rename_i hle
   simp at hy;subst hy
   obtain⟨oo,cap,B,he,hB,h1,h2,h3,h4,hk⟩:=ja hr
   obtain⟨B',dL,R,_,_⟩:=S.row i r hg
   rw[hB]at dL;injection dL with dL;subst dL
   replace R:=R.row hk
   have hlen:((r.rows.drop off).take len).length=len:=by simp;omega
   refine⟨some ⟨B.b,oo,none⟩,cap,by rw[hlen];exact he,?_⟩
   by_cases h0:(r.rows.drop off).take len=[]
   ·exact .inl h0
   ·have DP:r.sz=sz:=by
     cases hq:(r.rows.drop off).take len with
     |nil=>exact(h0 hq).elim
     |cons c q=>
      have hm:c∈(r.rows.drop off).take len:=by rw[hq];simp
      rw[<-hl c hm,R.len c (List.mem_of_mem_drop (List.mem_of_mem_take hm))]
    have hlp:0<len:=by rw[<-hlen];exact List.length_pos_iff.2 h0
    have EZ:oo=off*B.sz:=by rcases h2 with h2|h2<;>omega
    obtain⟨news,q1,q2,q3,q4⟩:=fin B.b oo h0 (fun i2 j cs x dx hx=>by
     rw[List.getElem?_take]at dx
     split at dx
     ·rw[List.getElem?_drop]at dx
      obtain⟨v,hv,mE⟩:=R.at_ _ _ _ _ dx hx
      refine⟨v,?_,mE⟩
      rw[EZ,R.sz,<-DP]
      rw[Nat.add_mul]at hv
      rw[<-Nat.add_assoc]
      exact hv
     ·simp at dx)
    exact .inr ⟨B.b,oo,news,rfl,q1,q2,q3,q4⟩
  ·simp at hy
 ·simp at hy
theorem qg {t ty e:TypeId} {i:TypeInfo} (ht:P.underlying t=some (.slice e)) (hi:P.info? e=some i) (A:Option Addr) (n c:Nat) (hn:n<=c) (B:Option Addr) (d:Nat):
  (Builtin.append_ #[t,t] ty #[.slice A n c,.slice B 0 d]).run P w=.ok (.slice A n c) w:=by
 have hf:(Builtin.firstCells i.size 0 (.slice B 0 d)).run P w=.ok #[] w:=by
  cases B<;>simp[Builtin.firstCells,loadCells,loadCellsFrom]
 cases A with
 |none=>simp[Builtin.append_,run_underlying ht,sizeOf,typeInfo,hi,Builtin.lenOf,hn,hf]
 |some A=>simp[Builtin.append_,run_underlying ht,sizeOf,typeInfo,hi,Builtin.lenOf,hn,hf,storeCells]
theorem zG {t ty e T:TypeId} {i:TypeInfo} (ht:P.underlying t=some (.slice e)) (hi:P.info? e=some i) (b tG GQ:Nat) (cur:Array Value) (hg:w.heap[b]? =some (.cells cur T (0,0)))
  (x:Addr) (m c:Nat) (news:List Value) (hl:news.length=m*i.size) (VU:∀j u,news[j]? =some u->w.cell? (x.add j)=some u) (h1:∀u∈news,u.oneCell'=true)
  (gG:tG+m<=GQ) (s5:tG*i.size+news.length<=cur.size):
  (Builtin.append_ #[t,t] ty #[.slice (some ⟨b,0,none⟩) tG GQ,.slice (some x) m c]).run P w=
   .ok (.slice (some ⟨b,0,none⟩) (tG+m) GQ) (w.setRow b (cur.toList.take (tG*i.size)++news++cur.toList.drop (tG*i.size+news.length)).toArray):=by
 have hf:=run_firstCells_some (P:=P) w i.size m x m c news hl VU
 have dC:=run_storeCells_at P b (tG*i.size) T news 0 cur w hg (by simpa using s5) h1
 simp only[Nat.add_zero]at dC
 simp[Builtin.append_,run_underlying ht,sizeOf,typeInfo,hi,Builtin.lenOf,gG,hf,kY,dC]
theorem Dy (w:World) (JN AA:Nat) (e:TypeId) (h:JN<=dz):JN<=grownCap w JN AA e/\grownCap w JN AA e<=maxLen:=by
 unfold dz at h
 simp only[grownCap,Question.cut,maxLen]
 have:=Nat.mod_lt (w.tape w.drawn (.appendCap JN AA e)) (show 0<2 ^ 63-JN by omega)
 omega
theorem gK {x y:Operand} {t:TypeId} {u:Value} (ho:o.op=.call {callee:=.builtin .append,args:= #[x,y],argTypes:= #[t,t]}) (h:(Builtin.append_ #[t,t] o.type #[a.eval x,a.eval y]).run P w=.ok u w'):(execOp a.eval o).run P w=.ok (.value u) w':=by
 simp only[execOp,ho,resolve,Sem.run_bind,Sem.run_pure,Result.andThen_ok,invoke,builtin]
 simp only[List.map_toArray,List.map_cons,List.map_nil]
 rw[h];rfl
theorem EJ {T:TypeId} (S:gR P hs D ι g w) (cells:Array Value) (hn:ι id=none) (B:uf):Step hs D ι w D (kW ι id B) (w.drew.alloc (.cells cells T)):=
 Step.stay S (fun k hk=>by show(w.heap.push _)[k]? = _;rw[Array.getElem?_push,if_neg ah]) (by show _<=(w.heap.push _).size;simp) rfl rfl rfl (fun _ h=>h) (fun _ h=>.inl h) (fj hn)
theorem Lj {x y:Operand} {x' y':O} {t e:TypeId} {m:Nat} {z:List K} {i:TypeInfo} {ys:List (List AV)} {g':Rows} (S:gR P hs D ι g w) (E:cD P w D ι env a) (hn:ι id=none) (ho:o.op=.call {callee:=.builtin .append,args:= #[x,y],argTypes:= #[t,t]})
  (ht:P.underlying t=some (.slice e)) (fm:eC P e=some (m+1)) (hz:j9 P e=some z) (hi:P.info? e=some i) (hby:i.bytes<=32768) (hx:cO P x=some x') (hy:cO P y=some y') (Ff:bw g (dc env y')=some ys)
  (hv:aY g id (m+1) (dc env x') ys=some (v,g')):Fi P hs a o w D ι id v g':=by
 have rx:=dw E hx
 have ry:=dw E hy
 obtain⟨it,zv,sr,xV,UA,hm,HS⟩:=kD hz
 rw[hi]at sr;injection sr with sr;subst sr
 have j5:i.size=m+1:=by simpa[eC,hi]using fm
 have fits:∀n,n<=dz->n*i.bytes<=140737488355328:=fun n h=>by
  unfold dz at h
  have:=Nat.mul_le_mul h hby
  omega
 have e63:∀n,n<=dz->(n:Int)<=9223372036854775807:=fun n h=>by unfold dz at h;omega
 have same:∀(w1:World) (cells:Array Value),w1=w.drew.alloc (.cells cells e)->w1.heap=w.heap.push (.cells cells e (0,0)):=fun w1 cells h=>by subst h;rfl
 have UP:∀l:List (List AV),(l.all fun c=>c.length==m+1&&c.all AV.cell)=true->(∀c∈l,c.length=m+1)/\∀c∈l,∀b∈c,b.cell=true:=fun l h=>by
  rw[List.all_eq_true]at h
  refine⟨fun c hc=>?_,fun c hc b hb=>?_⟩
  ·have:=h c hc;simp at this;exact this.1
  ·have:=h c hc;simp at this;exact this.2 b hb
 unfold aY at hv
 split at hv
 ·rename_i hb
  rw[hb]at rx
  have ex:=ji rx
  split at hv
  ·simp at hv
   obtain⟨rfl,rfl⟩:=hv
   obtain⟨A,c,ey,_⟩:=tD (sz:=m+1) S ry Ff (fun c h=>by cases h) (fun c h=>by cases h)
   refine⟨_,w,ι,.inl (gK ho (by rw[ex,ey];exact qg ht hi none 0 0 (Nat.le_refl _) A c)),Step.refl _ _ _ _,S,.eV _ _ .bI,fun _ _=>rfl⟩
  ·rename_i y0 yr
   split at hv
   ·rename_i hc
    simp only[Option.some.injEq,Prod.mk.injEq]at hv
    obtain⟨rfl,rfl⟩:=hv
    obtain⟨hl,hf⟩:=UP _ hc.2
    obtain⟨A,c,ey,h2⟩:=tD (sz:=m+1) S ry Ff hl hf
    rcases h2 with h2|⟨b,oo,news,rfl,q1,q2,q3,q4⟩
    ·cases h2
    have fP:=run_append_nil (P:=P) w t o.type e i zv ht hi xV ⟨b,oo,none⟩ (y0::yr).length c news (by rw[j5];exact q1) (fun j v hj=>by rw[kY];exact q2 j v hj) (by simp) (e63 _ hc.1) (by have:=fits _ hc.1;omega)
    obtain⟨g1,g2⟩:=Dy w (y0::yr).length 0 e hc.1
    have dx:(news.toArray++Builtin.zeroCells zv.cells (grownCap w (y0::yr).length 0 e-(y0::yr).length)).size=grownCap w (y0::yr).length 0 e*(m+1):=by
     rw[Array.size_append,size_zeroCells,UA,j5]
     simp only[List.size_toArray,q1]
     rw[<-Nat.add_mul];congr 1;omega
    have S1:=S.alloc (w':=w.drew.alloc (.cells (news.toArray++Builtin.zeroCells zv.cells (grownCap w (y0::yr).length 0 e-(y0::yr).length)) e)) (r:=⟨true,m+1,y0::yr⟩) rfl hn rfl (by rw[dx];exact Nat.mul_le_mul_right _ g1) hl hf
     (fun k j cs b2 hk hj=>by
      obtain⟨u,hu,zw⟩:=q3.2 _ _ (flat_get hl hk hj)
      refine⟨u,?_,zw⟩
      have ei:=(Array.getElem?_eq_some_iff.1 hu).1
      dsimp only
      rw[Array.getElem?_append_left ei];exact hu)
    have dC:=EJ (T:=e) S (news.toArray++Builtin.zeroCells zv.cells (grownCap w (y0::yr).length 0 e-(y0::yr).length)) hn ⟨w.heap.size,m+1,(news.toArray++Builtin.zeroCells zv.cells (grownCap w (y0::yr).length 0 e-(y0::yr).length)).size,none⟩
    refine⟨_,_,_,.inl (gK ho (by rw[ex,ey];exact fP)),dC,S1,?_,fun _ h=>gQ h⟩
    refine .own _ _ _ _ _ _ (ev _ _ _) rfl g1 (.inr (by simp)) ?_ g2
    dsimp only;rw[dx];simp
   ·simp at hv
 ·rename_i i0 len hb
  rw[hb]at rx
  simp only[Option.bind_eq_some_iff]at hv
  obtain⟨r,hg,hv⟩:=hv
  split at hv
  ·rename_i hc
   obtain⟨c1,c2,c3,c4,c5⟩:=hc
   simp only[Option.some.injEq,Prod.mk.injEq]at hv
   obtain⟨rfl,rfl⟩:=hv
   obtain⟨hl,hf⟩:=UP _ c5
   obtain⟨A,c,ey,h2⟩:=tD (sz:=m+1) S ry Ff hl hf
   obtain⟨oo,cap,B,ex,hB,h1,EZ,h3,h4,hk⟩:=ja rx
   obtain⟨B',dL,R,j6,lk⟩:=S.row _ _ hg
   rw[hB]at dL;injection dL with dL;subst dL
   replace R:=R.row hk
   have HH:B.sz=m+1:=R.sz.trans c2
   have BL:∀cs∈r.rows++ys,cs.length=m+1:=fun cs dx=>by
    rcases List.mem_append.1 dx with h|h
    ·rw[<-c2];exact R.len cs h
    ·exact hl cs h
   have QC:∀cs∈r.rows++ys,∀b∈cs,b.cell=true:=fun cs dx=>by
    rcases List.mem_append.1 dx with h|h
    ·exact R.flat cs h
    ·exact hf cs h
   rcases h2 with rfl|⟨yb,yo,news,rfl,q1,q2,q3,q4⟩
   ·have Jf:=S.rename hg c1 hB hn
    refine⟨_,w,kW ι id B,.inl (gK ho (by rw[ex,ey];exact qg ht hi _ _ _ h1 A c)),⟨Below.refl _ _,fun _ _=>rfl,fun _ h=>h,fj hn,fun _ h=>.inl h⟩,?_,?_,fun _ h=>gQ h⟩
    ·have:(⟨true,m+1,r.rows++[]⟩:Row)=r:=by cases r;simp_all
     rw[this];exact Jf
    ·simp only[List.length_nil,Nat.add_zero]
     exact .own _ _ _ _ _ B (ev _ _ _) hk h1 EZ h3 h4
   ·obtain⟨cur,T,hblk,hC,xQ⟩:=R.cur
    by_cases gG:len+ys.length<=cap
    ·have LZ:ys≠[]->oo=0:=fun h=>by
      rcases EZ with EZ|EZ
      ·have:=List.length_pos_iff.2 h;omega
      ·simpa using EZ
     by_cases hy0:ys=[]
     ·subst hy0
      have Jf:=S.rename hg c1 hB hn
      refine⟨_,w,kW ι id B,.inl (gK ho (by rw[ex,ey];exact qg ht hi _ _ _ h1 _ c)),⟨Below.refl _ _,fun _ _=>rfl,fun _ h=>h,fj hn,fun _ h=>.inl h⟩,?_,?_,fun _ h=>gQ h⟩
      ·have:(⟨true,m+1,r.rows++[]⟩:Row)=r:=by cases r;simp_all
       rw[this];exact Jf
      ·simp only[List.length_nil,Nat.add_zero]
       exact .own _ _ _ _ _ B (ev _ _ _) hk h1 EZ h3 h4
     have ho0:=LZ hy0
     subst ho0
     have s5:len*i.size+news.length<=cur.size:=by
      rw[j5,q1,hC,<-Nat.add_mul]
      refine Nat.le_trans ?_ h3
      rw[HH,Nat.zero_add]
      exact Nat.mul_le_mul_right _ gG
     have fP:=zG (ty:=o.type) ht hi B.b len cap cur hblk ⟨yb,yo,none⟩ ys.length c news (by rw[j5];exact q1) (fun j v hj=>by rw[kY];exact q2 j v hj) q4 gG s5
     have mO:cur.toList.length=cur.size:=Array.length_toList
     simp only[j5]at fP s5
     obtain⟨P1,P2⟩:=S.put (r':=⟨true,m+1,r.rows++ys⟩) hg c1 hB hblk (cur':=(cur.toList.take (len*(m+1))++news++cur.toList.drop (len*(m+1)+news.length)).toArray) (by simp only[List.size_toArray,List.length_append,List.length_take,List.length_drop,mO];omega) rfl c2.symm
      (by dsimp only;rw[List.length_append,<-c3,<-HH];refine Nat.le_trans (Nat.mul_le_mul_right _ gG) (Nat.le_trans (by simp) h3)) BL QC (fun k j cs b2 hk hj=>by
       simp only[List.getElem?_toArray]
       have gY:j<m+1:=by rw[<-BL cs (List.mem_of_getElem? hk)];exact(List.getElem?_eq_some_iff.1 hj).1
       rw[c2]
       by_cases lj:k<r.rows.length
       ·rw[List.getElem?_append_left lj]at hk
        have h2:k*(m+1)+j<len*(m+1):=kn ah gY
        rw[List.append_assoc,List.getElem?_append_left (by simp only[List.length_take,mO];omega),List.getElem?_take,if_pos h2]
        have:=xQ k j cs b2 hk hj
        rw[c2]at this;simpa using this
       ·rw[List.getElem?_append_right ah]at hk
        have uE:=(List.getElem?_eq_some_iff.1 hk).1
        have o9:len*(m+1)<=k*(m+1):=Nat.mul_le_mul_right _ ah
        have rY:k*(m+1)+j-len*(m+1)=(k-r.rows.length)*(m+1)+j:=by
         rw[<-c3,Nat.sub_mul];omega
        obtain⟨u,hu,zw⟩:=q3.2 _ _ (flat_get hl hk hj)
        refine⟨u,?_,zw⟩
        have HO:news[(k-r.rows.length)*(m+1)+j]? =some u:=by simpa using hu
        have ei:=(List.getElem?_eq_some_iff.1 HO).1
        rw[List.append_assoc,List.getElem?_append_right (by simp only[List.length_take,mO];omega),List.getElem?_append_left (by simp only[List.length_take,mO];omega)]
        rw[<-HO]
        congr 1
        simp only[List.length_take,mO]
        omega)
     have eb:bE (cj (bE g i0 ⟨true,m+1,r.rows++ys⟩) i0) id ⟨true,m+1,r.rows++ys⟩=bE (cj g i0) id ⟨true,m+1,r.rows++ys⟩:=by
      funext q;simp only[bE,cj]
      by_cases h:q=id<;>by_cases h':q=i0<;>simp[h,h']
     have Jf:=P1.rename (i:=i0) (id:=id) (r:=⟨true,m+1,r.rows++ys⟩) (by simp[bE]) rfl hB hn
     rw[eb]at Jf
     refine⟨_,_,_,.inl (gK ho (by rw[ex,ey];exact fP)),P2.trans ⟨Below.refl _ _,fun _ _=>rfl,fun _ h=>h,fj hn,fun _ h=>.inl h⟩,Jf,?_,fun _ h=>gQ h⟩
     exact .own _ _ _ _ _ B (ev _ _ _) hk gG (.inr (by simp)) h3 h4
    ·
     have holds:∃wL:List Value,wL.length=len*(m+1)/\(∀j v,wL[j]? =some v->w.cell? ⟨B.b,oo+j,none⟩=some v)/\fG P w D ι r.rows.flatten wL.toArray:=by
      obtain⟨A2,c2',e2,h2⟩:=tD (sz:=m+1) (u:=.slice (some ⟨B.b,oo,none⟩) len cap) S (.own i0 0 len oo cap B hB hk h1 EZ h3 h4) (ys:=r.rows) (by simp[bw,hg,c3]) (fun cs h=>by rw[<-c2];exact R.len cs h) R.flat
      rcases h2 with h2|⟨b2,o2,wL,rfl,p1,p2,p3,_⟩
      ·refine⟨[],by simp[c3,h2],fun j v h=>by simp at h,by rw[h2];exact⟨rfl,fun j a h=>by simp at h⟩⟩
      ·injection e2 with e2 _ _
       injection e2 with e2
       injection e2 with e21 Lh _
       subst e21;subst Lh
       exact⟨wL,by rw[p1,c3],p2,p3⟩
     obtain⟨wL,p1,p2,p3⟩:=holds
     have fP:=run_append_grow (P:=P) w t o.type e i zv ht hi xV ⟨B.b,oo,none⟩ len cap wL (by rw[j5];exact p1) (fun j v hj=>by rw[kY];exact p2 j v hj) ⟨yb,yo,none⟩ ys.length c news (by rw[j5];exact q1) (fun j v hj=>by rw[kY];exact q2 j v hj) ah (e63 _ c4) (growslice_fits ah (fits _ c4))
     obtain⟨g1,g2⟩:=Dy w (len+ys.length) cap e c4
     have dx:(wL.toArray++news.toArray++Builtin.zeroCells zv.cells (grownCap w (len+ys.length) cap e-(len+ys.length))).size=grownCap w (len+ys.length) cap e*(m+1):=by
      rw[Array.size_append,Array.size_append,size_zeroCells,UA,j5]
      simp only[List.size_toArray,q1,p1]
      rw[<-Nat.add_mul,<-Nat.add_mul];congr 1;omega
     have S1:=(S.kill i0).alloc (id:=id) (w':=w.drew.alloc (.cells (wL.toArray++news.toArray++Builtin.zeroCells zv.cells (grownCap w (len+ys.length) cap e-(len+ys.length))) e)) (r:=⟨true,m+1,r.rows++ys⟩) rfl hn rfl (by dsimp only;rw[dx,List.length_append,<-c3];exact Nat.mul_le_mul_right _ g1) BL QC
      (fun k j cs b2 hk hj=>by
       have E5:=flat_get BL hk hj
       rw[List.flatten_append]at E5
       have O7:wL.length=r.rows.flatten.length:=by have:=p3.1;simpa using this
       dsimp only
       by_cases ei:k*(m+1)+j<r.rows.flatten.length
       ·rw[List.getElem?_append_left ei]at E5
        obtain⟨u,hu,zw⟩:=p3.2 _ _ E5
        refine⟨u,?_,zw⟩
        rw[Array.getElem?_append_left (by simp;omega),Array.getElem?_append_left (by simp;omega)];exact hu
       ·rw[List.getElem?_append_right ah]at E5
        obtain⟨u,hu,zw⟩:=q3.2 _ _ E5
        refine⟨u,?_,zw⟩
        have DK:=(Array.getElem?_eq_some_iff.1 hu).1
        simp only[List.size_toArray]at DK
        rw[Array.getElem?_append_left (by simp;omega),Array.getElem?_append_right (by simp;omega)]
        simp only[List.size_toArray,O7];exact hu)
     have dC:=EJ (T:=e) S (wL.toArray++news.toArray++Builtin.zeroCells zv.cells (grownCap w (len+ys.length) cap e-(len+ys.length))) hn ⟨w.heap.size,m+1,(wL.toArray++news.toArray++Builtin.zeroCells zv.cells (grownCap w (len+ys.length) cap e-(len+ys.length))).size,none⟩
     refine⟨_,_,_,.inl (gK ho (by rw[ex,ey];exact fP)),dC,S1,?_,fun _ h=>gQ h⟩
     refine .own _ _ _ _ _ _ (ev _ _ _) rfl g1 (.inr (by simp)) ?_ g2
     dsimp only;rw[dx];simp
  ·simp at hv
 ·simp at hv
theorem l5 {x:Operand} {t:TypeId} {u:Value} (ho:o.op=.call {callee:=.builtin .clear,args:= #[x],argTypes:= #[t]}) (h:(Builtin.clear_ #[t] o.type #[a.eval x]).run P w=.ok u w'):(execOp a.eval o).run P w=.ok (.value u) w':=by
 simp only[execOp,ho,resolve,Sem.run_bind,Sem.run_pure,Result.andThen_ok,invoke,builtin]
 simp only[List.map_toArray,List.map_cons,List.map_nil]
 rw[h];rfl
theorem OA {x:Operand} {x':O} {t e:TypeId} {m:Nat} {z:List K} {g':Rows} (S:gR P hs D ι g w) (E:cD P w D ι env a) (ho:o.op=.call {callee:=.builtin .clear,args:= #[x],argTypes:= #[t]})
  (ht:P.underlying t=some (.slice e)) (fm:eC P e=some (m+1)) (hz:j9 P e=some z) (hx:cO P x=some x') (hv:bJ g z (dc env x')=some g'):Fi P hs a o w D ι id .undef g':=by
 have rx:=dw E hx
 obtain⟨it,zv,hi,xV,UA,hm,HS⟩:=kD hz
 have j5:it.size=m+1:=by simpa[eC,hi]using fm
 unfold bJ at hv
 split at hv
 ·rename_i hb
  rw[hb]at rx
  simp at hv;subst hv
  refine⟨undef,w,ι,.inl (l5 ho (by rw[ji rx];simp only[Builtin.clear_,Sem.run_bind];simp[run_underlying ht,undef])),Step.refl _ _ _ _,S,dd.undef,fun _ _=>rfl⟩
 ·rename_i i off len hb
  rw[hb]at rx
  simp only[Option.bind_eq_some_iff]at hv
  obtain⟨r,hg,hv⟩:=hv
  split at hv
  ·rename_i hc
   obtain⟨c1,c2,c3⟩:=hc
   simp only[Option.some.injEq]at hv;subst hv
   obtain⟨oo,cap,B,ex,hB,h1,h2,h3,h4,hk⟩:=ja rx
   obtain⟨B',dL,R,j6,lk⟩:=S.row _ _ hg
   rw[hB]at dL;injection dL with dL;subst dL
   replace R:=R.row hk
   obtain⟨cur,T,hblk,hC,xQ⟩:=R.cur
   by_cases h0:len=0
   ·subst h0
    have e1:({r with rows:=r.rows.take off++List.replicate 0 (z.map K.av)++r.rows.drop (off+0)}:Row)=r:=by cases r;simp
    rw[e1]
    have e2:bE g i r=g:=by
     funext q;unfold bE;split
     ·rename_i h;rw[h,hg]
     ·rfl
    rw[e2]
    refine⟨undef,w,ι,.inl (l5 ho (by rw[ex];simp only[Builtin.clear_,Sem.run_bind];simp[run_underlying ht,undef])),Step.refl _ _ _ _,S,dd.undef,fun _ _=>rfl⟩
   ·have BD:oo=off*B.sz:=by rcases h2 with h2|h2<;>omega
    have HH:B.sz=m+1:=by rw[R.sz,c2,HS,j5]
    have Aj:r.sz=m+1:=by rw[<-R.sz,HH]
    have Wf:zv.cells.size=m+1:=by rw[UA,j5]
    have zb:(Builtin.zeroCells zv.cells len).toList.length=len*(m+1):=by rw[Array.length_toList,size_zeroCells,Wf]
    have We:∀k,k<len*(m+1)->∃c,z[k % z.length]? =some c/\(Builtin.zeroCells zv.cells len).toList[k]? =some c.val:=fun k hk=>by
     obtain⟨c,qV,F1⟩:=qo (n:=len*zv.cells.size) hm (by rw[HS,j5];omega) k (by rw[Wf];exact hk)
     exact⟨c,qV,by rw[Array.getElem?_toList];exact F1⟩
    have hbound:(off+len)*(m+1)<=r.rows.length*(m+1):=Nat.mul_le_mul_right _ c3
    have xS:=R.fits
    rw[Aj]at xS
    have Zj:(off+len)*(m+1)=off*(m+1)+len*(m+1):=Nat.add_mul _ _ _
    have dC:=run_storeCells_at P B.b oo T (Builtin.zeroCells zv.cells len).toList 0 cur w hblk (by rw[zb,hC,BD,HH];omega) (by
     intro v hv
     obtain⟨k,hk,rfl⟩:=List.getElem_of_mem hv
     obtain⟨c,_,F1⟩:=We k (by rw[<-zb];exact hk)
     rw[List.getElem?_eq_getElem hk]at F1
     injection F1 with F1
     rw[F1];cases c<;>rfl)
    simp only[Nat.add_zero]at dC
    have mO:cur.toList.length=cur.size:=Array.length_toList
    obtain⟨P1,P2⟩:=S.put (r':={r with rows:=r.rows.take off++List.replicate len (z.map K.av)++r.rows.drop (off+len)}) hg c1 hB hblk (cur':=(cur.toList.take oo++(Builtin.zeroCells zv.cells len).toList++cur.toList.drop (oo+(Builtin.zeroCells zv.cells len).toList.length)).toArray)
     (by simp only[List.size_toArray,List.length_append,List.length_take,List.length_drop,mO,zb];rw[BD,HH];omega) c1 rfl (by
      have:(r.rows.take off++List.replicate len (z.map K.av)++r.rows.drop (off+len)).length=r.rows.length:=by simp;omega
      dsimp only;rw[this];exact R.fits) (fun cs dx=>by
      rcases List.mem_append.1 dx with h|h
      ·rcases List.mem_append.1 h with h|h
       ·exact R.len cs (List.mem_of_mem_take h)
       ·rw[List.eq_of_mem_replicate h];simp[c2]
      ·exact R.len cs (List.mem_of_mem_drop h)) (fun cs dx b hb=>by
      rcases List.mem_append.1 dx with h|h
      ·rcases List.mem_append.1 h with h|h
       ·exact R.flat cs (List.mem_of_mem_take h) b hb
       ·rw[List.eq_of_mem_replicate h]at hb
        obtain⟨c,_,rfl⟩:=List.mem_map.1 hb;exact c.nQ
      ·exact R.flat cs (List.mem_of_mem_drop h) b hb) (fun k j cs b hk hj=>by
      simp only[List.getElem?_toArray]
      rw[Aj]
      rw[BD,HH,zb]
      by_cases sw:k<off
      ·rw[List.append_assoc,List.getElem?_append_left (by simp;omega),List.getElem?_take,if_pos sw]at hk
       have gY:j<m+1:=by rw[<-Aj,<-R.len cs (List.mem_of_getElem? hk)];exact(List.getElem?_eq_some_iff.1 hj).1
       have h2:=kn sw gY
       rw[List.append_assoc,List.getElem?_append_left (by simp only[List.length_take,mO];omega),List.getElem?_take,if_pos h2]
       have:=xQ k j cs b hk hj
       rw[Aj]at this;simpa using this
      ·by_cases uE:k<off+len
       ·rw[List.append_assoc,List.getElem?_append_right (by simp;omega),List.getElem?_append_left (by simp;omega)]at hk
        have il:=List.eq_of_mem_replicate (List.mem_of_getElem? hk)
        subst il
        simp only[List.getElem?_map,Option.map_eq_some_iff]at hj
        obtain⟨q,hq,rfl⟩:=hj
        have gY:=(List.getElem?_eq_some_iff.1 hq).1
        rw[HS,j5]at gY
        have o9:off*(m+1)<=k*(m+1):=Nat.mul_le_mul_right _ ah
        have rY:k*(m+1)+j-off*(m+1)=(k-off)*(m+1)+j:=by rw[Nat.sub_mul];omega
        have DK:(k-off)*(m+1)+j<len*(m+1):=kn ah gY
        rw[List.append_assoc,List.getElem?_append_right (by simp only[List.length_take,mO];omega),List.getElem?_append_left (by simp only[List.length_take,mO,zb];omega)]
        obtain⟨c,qV,F1⟩:=We _ DK
        rw[HS,j5,Nat.mul_comm (k-off),Nat.mul_add_mod,Nat.mod_eq_of_lt gY,hq]at qV
        injection qV with qV;subst qV
        refine⟨q.val,?_,yI q⟩
        rw[<-F1]
        congr 1
        simp only[List.length_take,mO];omega
       ·rw[List.getElem?_append_right (by simp;omega)]at hk
        simp only[List.length_append,List.length_take,List.length_replicate,List.getElem?_drop]at hk
        rw[show off+len+(k-(min off r.rows.length+len))=k by omega]at hk
        have lj:=(List.getElem?_eq_some_iff.1 hk).1
        have o9:(off+len)*(m+1)<=k*(m+1):=Nat.mul_le_mul_right _ ah
        rw[List.getElem?_append_right (by simp only[List.length_append,List.length_take,mO,zb];omega)]
        simp only[List.length_append,List.length_take,mO,zb,List.getElem?_drop]
        rw[show off*(m+1)+len*(m+1)+(k*(m+1)+j-(min (off*(m+1)) cur.size+len*(m+1)))=k*(m+1)+j by omega]
        have:=xQ k j cs b hk hj
        rw[Aj]at this;simpa using this)
    refine⟨undef,_,ι,.inl (l5 ho ?_),P2,P1,dd.undef,fun _ _=>rfl⟩
    rw[ex]
    cases len with
    |zero=>exact(h0 rfl).elim
    |succ len=>
     simp only[Builtin.clear_,Sem.run_bind]
     simp[run_underlying ht,zeroValue,typeInfo,hi,xV,dC,undef]
  ·simp at hv
 ·simp at hv
theorem J3 {dT sT ty e:TypeId} {it:TypeInfo} (hu:P.underlying dT=some (.slice e)) (hi:P.info? e=some it) (A B:Option Addr) (tG GQ IH RL:Nat) (h0:Nat.min tG IH=0):
  (Builtin.copy_ #[dT,sT] ty #[.slice A IH RL,.slice B tG GQ]).run P w=.ok (goInt 0) w:=by
 cases A<;>cases B<;>simp[Builtin.copy_,run_underlying hu,Builtin.lenOf,Builtin.firstCells,sizeOf,typeInfo,hi,h0,storeCells,loadCells,loadCellsFrom]
theorem J4 {dT sT ty e:TypeId} {it:TypeInfo} (hu:P.underlying dT=some (.slice e)) (hi:P.info? e=some it) (A B:Addr) (tG GQ IH RL:Nat) (cs:List Value) (hn:cs.length=Nat.min tG IH*it.size) (hl:(loadCells B cs.length).run P w=.ok cs.toArray w) (hs:(storeCells A cs).run P w=.ok () w'):
  (Builtin.copy_ #[dT,sT] ty #[.slice (some A) IH RL,.slice (some B) tG GQ]).run P w=.ok (goInt (Nat.min tG IH)) w':=by
 simp[Builtin.copy_,run_underlying hu,Builtin.lenOf,Builtin.firstCells,sizeOf,typeInfo,hi,<-hn,hl,hs]
theorem rC {x y:Operand} {t t2:TypeId} {u:Value} (ho:o.op=.call {callee:=.builtin .copy,args:= #[x,y],argTypes:= #[t,t2]}) (h:(Builtin.copy_ #[t,t2] o.type #[a.eval x,a.eval y]).run P w=.ok u w'):(execOp a.eval o).run P w=.ok (.value u) w':=by
 simp only[execOp,ho,resolve,Sem.run_bind,Sem.run_pure,Result.andThen_ok,invoke,builtin]
 simp only[List.map_toArray,List.map_cons,List.map_nil]
 rw[h];rfl
theorem RM {x y:Operand} {x' y':O} {t t2 e:TypeId} {m:Nat} {ys:List (List AV)} {v:AV} {g':Rows} (S:gR P hs D ι g w) (E:cD P w D ι env a) (ho:o.op=.call {callee:=.builtin .copy,args:= #[x,y],argTypes:= #[t,t2]})
  (ht:P.underlying t=some (.slice e)) (fm:eC P e=some (m+1)) (hx:cO P x=some x') (hy:cO P y=some y') (Ff:bw g (dc env y')=some ys) (hv:Ig g (m+1) (dc env x') ys=some (v,g')):Fi P hs a o w D ι id v g':=by
 have rx:=dw E hx
 have ry:=dw E hy
 obtain⟨it,hi,j5⟩:∃it,P.info? e=some it/\it.size=m+1:=by
  cases hq:P.info? e with
  |none=>simp[eC,hq]at fm
  |some it=>exact⟨it,rfl,by simpa[eC,hq]using fm⟩
 unfold Ig at hv
 split at hv
 ·rename_i i off len hb
  rw[hb]at rx
  simp only[Option.bind_eq_some_iff]at hv
  obtain⟨r,hg,hv⟩:=hv
  split at hv
  ·rename_i hc
   obtain⟨c1,c2,c3,c4⟩:=hc
   simp only[Option.some.injEq,Prod.mk.injEq]at hv
   obtain⟨rfl,rfl⟩:=hv
   rw[List.all_eq_true]at c4
   have hl:∀c∈ys,c.length=m+1:=fun c hc=>by have:=c4 c hc;simp at this;exact this.1
   have hf:∀c∈ys,∀b∈c,b.cell=true:=fun c hc b hb=>by have:=c4 c hc;simp at this;exact this.2 b hb
   obtain⟨oo,cap,B,ex,hB,h1,h2,h3,h4,hk⟩:=ja rx
   obtain⟨B',dL,R,j6,lk⟩:=S.row _ _ hg
   rw[hB]at dL;injection dL with dL;subst dL
   replace R:=R.row hk
   obtain⟨cur,T,hblk,hC,xQ⟩:=R.cur
   obtain⟨A,sc,hu,hA⟩:=tD S ry Ff hl hf
   by_cases h0:min ys.length len=0
   ·rw[h0]
    have e1:({r with rows:=r.rows.take off++ys.take 0++r.rows.drop (off+0)}:Row)=r:=by cases r;simp
    rw[e1]
    have e2:bE g i r=g:=by
     funext q;unfold bE;split
     ·rename_i h;rw[h,hg]
     ·rfl
    rw[e2]
    refine⟨goInt 0,w,ι,.inl (rC ho (by rw[ex,hu];exact J3 ht hi _ _ _ _ _ _ h0)),Step.refl _ _ _ _,S,.eV _ _ (.int _ _),fun _ _=>rfl⟩
   ·rcases hA with rfl|⟨b,o2,news,rfl,qY,hsrc,hR,h1c⟩
    ·simp at h0
    have VP:Nat.min ys.length len=min ys.length len:=rfl
    have hky:min ys.length len<=ys.length:=Nat.min_le_left _ _
    have lj:min ys.length len<=len:=Nat.min_le_right _ _
    generalize QR:min ys.length len=kk at *
    have QS:len≠0:=ah
    have BD:oo=off*B.sz:=by rcases h2 with h2|h2<;>omega
    have HH:B.sz=m+1:=by rw[R.sz,c2]
    have Aj:r.sz=m+1:=c2
    have SC:kk*(m+1)<=ys.length*(m+1):=Nat.mul_le_mul_right _ hky
    have zb:(news.take (kk*(m+1))).length=kk*(m+1):=by rw[List.length_take,qY];omega
    have hbound:(off+kk)*(m+1)<=r.rows.length*(m+1):=Nat.mul_le_mul_right _ ah
    have xS:=R.fits
    rw[Aj]at xS
    have Zj:(off+kk)*(m+1)=off*(m+1)+kk*(m+1):=Nat.add_mul _ _ _
    have dC:=run_storeCells_at P B.b oo T (news.take (kk*(m+1))) 0 cur w hblk (by rw[zb,hC,BD,HH];omega) (fun v hv=>h1c v (List.mem_of_mem_take hv))
    have XH:=run_loadCells_list (P:=P) w ⟨b,o2,none⟩ (news.take (kk*(m+1))) (fun j v hj=>by
     rw[List.getElem?_take]at hj
     split at hj
     ·have:=hsrc j v hj
      cases j with
      |zero=>simpa[Addr.add]using this
      |succ j=>simpa[Addr.add]using this
     ·cases hj)
    simp only[Nat.add_zero]at dC
    have mO:cur.toList.length=cur.size:=Array.length_toList
    have Fb:(ys.take kk).length=kk:=by rw[List.length_take];omega
    obtain⟨P1,P2⟩:=S.put (r':={r with rows:=r.rows.take off++ys.take kk++r.rows.drop (off+kk)}) hg c1 hB hblk (cur':=(cur.toList.take oo++news.take (kk*(m+1))++cur.toList.drop (oo+(news.take (kk*(m+1))).length)).toArray)
     (by simp only[List.size_toArray,List.length_append,List.length_drop,mO,zb];rw[List.length_take,mO,BD,HH];omega) c1 rfl (by
      have:(r.rows.take off++ys.take kk++r.rows.drop (off+kk)).length=r.rows.length:=by simp;omega
      dsimp only;rw[this];exact R.fits) (fun cs dx=>by
      rcases List.mem_append.1 dx with h|h
      ·rcases List.mem_append.1 h with h|h
       ·exact R.len cs (List.mem_of_mem_take h)
       ·rw[hl cs (List.mem_of_mem_take h)];exact c2.symm
      ·exact R.len cs (List.mem_of_mem_drop h)) (fun cs dx b hb=>by
      rcases List.mem_append.1 dx with h|h
      ·rcases List.mem_append.1 h with h|h
       ·exact R.flat cs (List.mem_of_mem_take h) b hb
       ·exact hf cs (List.mem_of_mem_take h) b hb
      ·exact R.flat cs (List.mem_of_mem_drop h) b hb) (fun k j cs b hk hj=>by
      simp only[List.getElem?_toArray]
      rw[Aj]
      rw[BD,HH,zb]
      by_cases sw:k<off
      ·rw[List.append_assoc,List.getElem?_append_left (by simp;omega),List.getElem?_take,if_pos sw]at hk
       have gY:j<m+1:=by rw[<-Aj,<-R.len cs (List.mem_of_getElem? hk)];exact(List.getElem?_eq_some_iff.1 hj).1
       have h2:=kn sw gY
       rw[List.append_assoc,List.getElem?_append_left (by simp only[List.length_take,mO];omega),List.getElem?_take,if_pos h2]
       have:=xQ k j cs b hk hj
       rw[Aj]at this;simpa using this
      ·by_cases uE:k<off+kk
       ·rw[List.append_assoc,List.getElem?_append_right (by simp;omega),List.getElem?_append_left (by simp;omega)]at hk
        simp only[List.length_take]at hk
        rw[show k-min off r.rows.length=k-off by omega,List.getElem?_take,if_pos ah]at hk
        have gY:j<m+1:=by rw[<-hl cs (List.mem_of_getElem? hk)];exact(List.getElem?_eq_some_iff.1 hj).1
        have o9:off*(m+1)<=k*(m+1):=Nat.mul_le_mul_right _ ah
        have rY:k*(m+1)+j-off*(m+1)=(k-off)*(m+1)+j:=by rw[Nat.sub_mul];omega
        have DK:(k-off)*(m+1)+j<kk*(m+1):=kn ah gY
        rw[List.append_assoc,List.getElem?_append_right (by simp only[List.length_take,mO];omega),List.getElem?_append_left (by rw[zb];simp only[List.length_take,mO];omega)]
        obtain⟨u,Mc,V6⟩:=hR.2 ((k-off)*(m+1)+j) b (flat_get hl hk hj)
        refine⟨u,?_,V6⟩
        rw[List.getElem?_take]
        simp only[List.length_take,mO]
        rw[show k*(m+1)+j-min (off*(m+1)) cur.size=(k-off)*(m+1)+j by omega,if_pos DK]
        simpa using Mc
       ·rw[List.getElem?_append_right (by simp;omega)]at hk
        simp only[List.length_append,List.length_take,List.getElem?_drop]at hk
        rw[show off+kk+(k-(min off r.rows.length+min kk ys.length))=k by omega]at hk
        have lj:=(List.getElem?_eq_some_iff.1 hk).1
        have o9:(off+kk)*(m+1)<=k*(m+1):=Nat.mul_le_mul_right _ ah
        rw[List.getElem?_append_right (by rw[List.length_append,zb];simp only[List.length_take,mO];omega)]
        rw[List.getElem?_drop,List.length_append,zb]
        simp only[List.length_take,mO]
        rw[show off*(m+1)+kk*(m+1)+(k*(m+1)+j-(min (off*(m+1)) cur.size+kk*(m+1)))=k*(m+1)+j by omega]
        have:=xQ k j cs b hk hj
        rw[Aj]at this;simpa using this)
    refine⟨goInt kk,_,ι,.inl (rC ho ?_),P2,P1,.eV _ _ (.int _ _),fun _ _=>rfl⟩
    rw[ex,hu]
    have:=J4 (w:=w) (sT:=t2) (ty:=o.type) ht hi ⟨B.b,oo,none⟩ ⟨b,o2,none⟩ ys.length sc len cap _ (by rw[zb,VP,j5]) XH dC
    rw[VP]at this
    exact this
  ·simp at hv
 ·simp at hv
end
end Go.Proofs.YtgoljkjaameagaaGreat.V

namespace Go.Proofs.YtgoljkjaameagaaGreat.V
open Go.RowKit
variable {P:Program} {w w':World} {D D' D2:Nat->Prop} {ι ι' ι2:Names}
section
variable {g:Rows} {hs:Nat}
theorem gW:∀{n:Nat} {l r:List AV},cZ g n l=some r->r.length=l.length/\∀(j:Nat) (b:AV),r[j]? =some b->∃a,l[j]? =some a/\fz g n a=some b
 |n,[],r,h=>by
  rw[cZ]at h;simp at h;subst h;simp
 |n,a::l,r,h=>by
  rw[cZ]at h
  split at h
  ·rename_i b hb
   simp only[Option.map_eq_some_iff]at h
   obtain⟨r',hr,rfl⟩:=h
   obtain⟨h1,h2⟩:=gW hr
   refine⟨by simp[h1],fun j c hj=>?_⟩
   cases j with
   |zero=>simp at hj;subst hj;exact⟨a,rfl,hb⟩
   |succ j=>simp at hj ⊢;exact h2 j c hj
  ·simp at h
theorem xM:∀{n:Nat} {l r:List (List AV)},eo g n l=some r->r.length=l.length/\∀(j:Nat) (b:List AV),r[j]? =some b->∃a,l[j]? =some a/\cZ g n a=some b
 |n,[],r,h=>by
  rw[eo]at h;simp at h;subst h;simp
 |n,a::l,r,h=>by
  rw[eo]at h
  split at h
  ·rename_i b hb
   simp only[Option.map_eq_some_iff]at h
   obtain⟨r',hr,rfl⟩:=h
   obtain⟨h1,h2⟩:=xM hr
   refine⟨by simp[h1],fun j c hj=>?_⟩
   cases j with
   |zero=>simp at hj;subst hj;exact⟨a,rfl,hb⟩
   |succ j=>simp at hj ⊢;exact h2 j c hj
  ·simp at h
theorem sZ (hD:∀b,D b->D2 b) (tV:∀id row,g id=some row->row.w=true->∃B,ι id=some B/\iF P w D ι B row/\D2 B.b):∀(n:Nat) (a:AV) (u:Value) (r:AV),dd P w D ι a u->fz g n a=some r->dd P w D2 ι2 r u/\(a.cell=true->kd P w D2 r u/\r.cell=true):=by
 intro n
 induction n with
 |zero=>intro a u r _ h;rw[fz]at h;simp at h
 |succ n ih=>
  intro a u r hr h
  have both:∀{r:AV},kd P w D2 r u->r.cell=true->dd P w D2 ι2 r u/\(a.cell=true->kd P w D2 r u/\r.cell=true):=fun h1 h2=>⟨.eV _ _ h1,fun _=>⟨h1,h2⟩⟩
  cases a with
  |map id m=>rw[fz]at h;cases h
  |sQ id=>rw[fz]at h;cases h
  |own id off len=>
   rw[fz]at h
   split at h
   ·rename_i row hg
    split at h
    ·rename_i hw
     split at h
     ·rename_i hle
      simp only[Option.map_eq_some_iff]at h
      obtain⟨rows,pT,rfl⟩:=h
      obtain⟨B,hB,R,R9⟩:=tV id row hg hw
      obtain⟨o,cap,B',rfl,dL,h1,h2,h3,h4,hk⟩:=ja hr
      rw[hB]at dL;injection dL with dL;subst dL
      replace R:=R.row hk
      obtain⟨l1,l2⟩:=xM pT
      have hlen:rows.length=len:=by rw[l1];simp;omega
      by_cases h0:rows=[]
      ·subst h0
       simp at hlen;subst hlen
       exact both (.CJ _ _ h4) rfl
      ·have hlp:0<len:=by rw[<-hlen];exact List.length_pos_iff.2 h0
       have ho:o=off*B.sz:=by rcases h2 with h2|h2<;>omega
       have src:∀i cs,rows[i]? =some cs->∃c0,row.rows[off+i]? =some c0/\cZ g n c0=some cs:=fun i cs hi=>by
        obtain⟨c0,kb,hf⟩:=l2 i cs hi
        rw[List.getElem?_take]at kb
        split at kb
        ·rw[List.getElem?_drop]at kb;exact⟨c0,kb,hf⟩
        ·simp at kb
       have cell:∀i j,i<len->j<row.sz->∃c0 a0 v,row.rows[off+i]? =some c0/\c0[j]? =some a0/\w.cell? ⟨B.b,o+(i*row.sz+j),none⟩=some v/\dd P w D ι a0 v:=fun i j hi hj=>by
        have sr:off+i<row.rows.length:=ah
        have e1:=List.getElem?_eq_getElem sr
        have N2:j<row.rows[off+i].length:=by rw[R.len _ (List.getElem_mem sr)];exact hj
        obtain⟨v,hv,mE⟩:=R.at_ _ _ _ _ e1 (List.getElem?_eq_getElem N2)
        refine⟨_,_,v,e1,List.getElem?_eq_getElem N2,?_,mE⟩
        rw[ho,R.sz,<-hv]
        congr 2
        rw[Nat.add_mul];omega
       refine both (.sl rows B.b o len cap row.sz (fun i j=>(w.cell? ⟨B.b,o+(i*row.sz+j),none⟩).getD undef) hlen h1 h4 R9 (fun cs dx=>?_) (fun cs dx b hb=>?_) (fun i j hi hj=>?_) (fun i j cs b hi hj=>?_)) rfl
       ·obtain⟨i,hi,rfl⟩:=List.getElem_of_mem dx
        obtain⟨c0,kb,hf⟩:=src i _ (List.getElem?_eq_getElem hi)
        rw[(gW hf).1];exact R.len c0 (List.mem_of_getElem? kb)
       ·obtain⟨i,hi,rfl⟩:=List.getElem_of_mem dx
        obtain⟨c0,kb,hf⟩:=src i _ (List.getElem?_eq_getElem hi)
        obtain⟨j,hj,rfl⟩:=List.getElem_of_mem hb
        obtain⟨a0,ma,LQ⟩:=(gW hf).2 j _ (List.getElem?_eq_getElem hj)
        obtain⟨v,_,mE⟩:=R.at_ _ _ _ _ kb ma
        exact((ih _ _ _ mE LQ).2 (R.flat c0 (List.mem_of_getElem? kb) a0 (List.mem_of_getElem? ma))).2
       ·obtain⟨c0,a0,v,_,_,hv,_⟩:=cell i j hi hj
        simp only[hv,Option.getD_some]
       ·obtain⟨c0,kb,hf⟩:=src i cs hi
        obtain⟨a0,ma,LQ⟩:=(gW hf).2 j b hj
        have mb:i<len:=by rw[<-hlen];exact(List.getElem?_eq_some_iff.1 hi).1
        have gY:j<row.sz:=by rw[<-R.len c0 (List.mem_of_getElem? kb)];exact(List.getElem?_eq_some_iff.1 ma).1
        obtain⟨c1,a1,v,e1,e2,hv,mE⟩:=cell i j mb gY
        rw[kb]at e1;injection e1 with e1;subst e1
        rw[ma]at e2;injection e2 with e2;subst e2
        simp only[hv,Option.getD_some]
        exact((ih _ _ _ mE LQ).2 (R.flat c0 (List.mem_of_getElem? kb) a0 (List.mem_of_getElem? ma))).1
     ·simp at h
    ·simp at h
   ·simp at h
  |ptr id i off=>
   rw[fz]at h
   split at h
   ·rename_i row hg
    split at h
    ·rename_i hw
     split at h
     ·rename_i c0 kb
      simp only[Option.map_eq_some_iff]at h
      obtain⟨cs,dx,rfl⟩:=h
      obtain⟨B,hB,R,R9⟩:=tV id row hg hw
      obtain⟨B',rfl,dL,hk⟩:=iN hr
      rw[hB]at dL;injection dL with dL;subst dL
      replace R:=R.row hk
      obtain⟨l1,l2⟩:=gW dx
      have at_:∀j b,cs[j]? =some b->∃a0 v,w.cell? ⟨B.b,i*B.sz+off+j,none⟩=some v/\dd P w D ι a0 v/\a0.cell=true/\fz g n a0=some b:=fun j b hj=>by
       obtain⟨a0,ma,hf⟩:=l2 j b hj
       rw[List.getElem?_drop]at ma
       obtain⟨v,hv,mE⟩:=R.at_ _ _ _ _ kb ma
       refine⟨a0,v,?_,mE,R.flat c0 (List.mem_of_getElem? kb) a0 (List.mem_of_getElem? ma),hf⟩
       rw[R.sz,Nat.add_assoc];exact hv
      refine both (.dn cs B.b _ (fun j=>(w.cell? ⟨B.b,i*B.sz+off+j,none⟩).getD undef) R9 (fun b hb=>?_) (fun j hj=>?_) (fun j b hj=>?_)) rfl
      ·obtain⟨j,hj,rfl⟩:=List.getElem_of_mem hb
       obtain⟨a0,v,_,mE,hc,hf⟩:=at_ j _ (List.getElem?_eq_getElem hj)
       exact((ih _ _ _ mE hf).2 hc).2
      ·obtain⟨a0,v,hv,_⟩:=at_ j _ (List.getElem?_eq_getElem hj)
       simp only[hv,Option.getD_some]
      ·obtain⟨a0,v,hv,mE,hc,hf⟩:=at_ j b hj
       simp only[hv,Option.getD_some]
       exact((ih _ _ _ mE hf).2 hc).1
     ·simp at h
    ·simp at h
   ·simp at h
  |agg cs=>
   rw[fz]at h
   simp only[Option.map_eq_some_iff]at h
   obtain⟨r',pf,rfl⟩:=h
   obtain⟨vs,f,rfl,h1,h2,h3,h4⟩:=iY hr
   obtain⟨l1,l2⟩:=gW pf
   have hI:kd P w D2 (.agg r') (.agg vs):=.agg r' vs f (by rw[h1,l1]) (fun b hb=>by
    obtain⟨j,hj,rfl⟩:=List.getElem_of_mem hb
    obtain⟨a0,ma,hf⟩:=l2 j _ (List.getElem?_eq_getElem hj)
    exact((ih _ _ _ (h4 j a0 ma) hf).2 (h2 a0 (List.mem_of_getElem? ma))).2) (fun j hj=>h3 j (by rw[<-l1];exact hj)) (fun j b hj=>by
    obtain⟨a0,ma,hf⟩:=l2 j b hj
    exact((ih _ _ _ (h4 j a0 ma) hf).2 (h2 a0 (List.mem_of_getElem? ma))).1)
   exact⟨.eV _ _ hI,fun hc=>by simp[AV.cell]at hc⟩
  |gJ cs=>
   rw[fz]at h
   simp only[Option.map_eq_some_iff]at h
   obtain⟨r',pf,rfl⟩:=h
   obtain⟨vs,f,rfl,h1,h3,h4⟩:=w9 hr
   obtain⟨l1,l2⟩:=gW pf
   exact⟨.gJ r' vs f (by rw[h1,l1]) (fun j hj=>h3 j (by rw[<-l1];exact hj)) (fun j b hj=>by
    obtain⟨a0,ma,hf⟩:=l2 j b hj
    exact(ih _ _ _ (h4 j a0 ma) hf).1),fun hc=>by simp[AV.cell]at hc⟩
  |fn f dh=>
   rw[fz]at h
   split at h
   ·rename_i dP
    simp only[Option.map_eq_some_iff]at h
    obtain⟨r',pf,rfl⟩:=h
    obtain⟨vs,q,rfl,h0,h1,h3,h4⟩:=uR hr
    obtain⟨l1,l2⟩:=gW pf
    exact both (.fn f r' vs q h0 (by rw[h1,l1]) (fun j hj=>h3 j (by rw[<-l1];exact hj)) (fun j b hj=>by
     obtain⟨a0,ma,hf⟩:=l2 j b hj
     exact((ih _ _ _ (h4 j a0 ma) hf).2 (List.all_eq_true.1 dP a0 (List.mem_of_getElem? ma))).1)) rfl
   ·simp at h
  |int k m=>rw[fz]at h<;>(try simp at h)<;>(try subst h)<;>(try(rw[dq hr];exact⟨.eV _ _ (.int _ _),fun _=>⟨.int _ _,rfl⟩⟩))<;>(try(intros;simp_all))
  |bool b=>rw[fz]at h<;>(try simp at h)<;>(try subst h)<;>(try(rw[fw hr];exact⟨.eV _ _ (.bool _),fun _=>⟨.bool _,rfl⟩⟩))<;>(try(intros;simp_all))
  |str b=>rw[fz]at h<;>(try simp at h)<;>(try subst h)<;>(try(rw[gi hr];exact⟨.eV _ _ (.str _),fun _=>⟨.str _,rfl⟩⟩))<;>(try(intros;simp_all))
  |bI=>rw[fz]at h<;>(try simp at h)<;>(try subst h)<;>(try(rw[ji hr];exact⟨.eV _ _ .bI,fun _=>⟨.bI,rfl⟩⟩))<;>(try(intros;simp_all))
  |jo=>rw[fz]at h<;>(try simp at h)<;>(try subst h)<;>(try(rw[yJ hr];exact⟨.eV _ _ .jo,fun _=>⟨.jo,rfl⟩⟩))<;>(try(intros;simp_all))
  |jE=>rw[fz]at h<;>(try simp at h)<;>(try subst h)<;>(try(rw[EF hr];exact⟨.eV _ _ .jE,fun _=>⟨.jE,rfl⟩⟩))<;>(try(intros;simp_all))
  |vU f dh=>rw[fz]at h<;>(try simp at h)<;>(try(intros;simp_all))
  |iA=>rw[fz]at h<;>(try simp at h)<;>(try subst h)<;>(try(cases hr with|eV _ _ hr=>exact both (hr.frame (fun _ _=>rfl) hD) rfl))<;>(try(intros;simp_all))
  |sl rows=>rw[fz]at h<;>(try simp at h)<;>(try subst h)<;>(try(cases hr with|eV _ _ hr=>exact both (hr.frame (fun _ _=>rfl) hD) rfl))<;>(try(intros;simp_all))
  |dn cs=>rw[fz]at h<;>(try simp at h)<;>(try subst h)<;>(try(cases hr with|eV _ _ hr=>exact both (hr.frame (fun _ _=>rfl) hD) rfl))<;>(try(intros;simp_all))
theorem jl:∀{n:Nat} {l r:List AV},ep g n l=some r->r.length=l.length/\∀(j:Nat) (b:AV),r[j]? =some b->∃a,l[j]? =some a/\gF g n a=some b
 |n,[],r,h=>by
  rw[ep]at h;simp at h;subst h;simp
 |n,a::l,r,h=>by
  rw[ep]at h
  split at h
  ·rename_i b hb
   simp only[Option.map_eq_some_iff]at h
   obtain⟨r',hr,rfl⟩:=h
   obtain⟨h1,h2⟩:=jl hr
   refine⟨by simp[h1],fun j c hj=>?_⟩
   cases j with
   |zero=>simp at hj;subst hj;exact⟨a,rfl,hb⟩
   |succ j=>simp at hj ⊢;exact h2 j c hj
  ·simp at h
theorem vD:∀{n:Nat} {l r:List (List AV)},gN g n l=some r->r.length=l.length/\∀(j:Nat) (b:List AV),r[j]? =some b->∃a,l[j]? =some a/\ep g n a=some b
 |n,[],r,h=>by
  rw[gN]at h;simp at h;subst h;simp
 |n,a::l,r,h=>by
  rw[gN]at h
  split at h
  ·rename_i b hb
   simp only[Option.map_eq_some_iff]at h
   obtain⟨r',hr,rfl⟩:=h
   obtain⟨h1,h2⟩:=vD hr
   refine⟨by simp[h1],fun j c hj=>?_⟩
   cases j with
   |zero=>simp at hj;subst hj;exact⟨a,rfl,hb⟩
   |succ j=>simp at hj ⊢;exact h2 j c hj
  ·simp at h
theorem IZ (tV:∀id row,g id=some row->row.w=true->∃B,ι id=some B/\iF P w D ι B row/\D2 B.b):∀(n:Nat) (a:AV) (u:Value) (r:AV),dd P w D ι a u->gF g n a=some r->dd P w D2 ι2 r u/\(a.cell=true->kd P w D2 r u/\r.cell=true):=by
 intro n
 induction n with
 |zero=>intro a u r _ h;rw[gF]at h;simp at h
 |succ n ih=>
  intro a u r hr h
  have both:∀{r:AV},kd P w D2 r u->r.cell=true->dd P w D2 ι2 r u/\(a.cell=true->kd P w D2 r u/\r.cell=true):=fun h1 h2=>⟨.eV _ _ h1,fun _=>⟨h1,h2⟩⟩
  cases a with
  |map id m=>rw[gF]at h<;>simp_all
  |sQ id=>rw[gF]at h<;>simp_all
  |own id off len=>
   rw[gF]at h
   split at h
   ·rename_i row hg
    split at h
    ·rename_i hw
     split at h
     ·rename_i hle
      simp only[Option.map_eq_some_iff]at h
      obtain⟨rows,pT,rfl⟩:=h
      obtain⟨B,hB,R,R9⟩:=tV id row hg hw
      obtain⟨o,cap,B',rfl,dL,h1,h2,h3,h4,hk⟩:=ja hr
      rw[hB]at dL;injection dL with dL;subst dL
      replace R:=R.row hk
      obtain⟨l1,l2⟩:=vD pT
      have hlen:rows.length=len:=by rw[l1];simp;omega
      by_cases h0:rows=[]
      ·subst h0
       simp at hlen;subst hlen
       exact both (.CJ _ _ h4) rfl
      ·have hlp:0<len:=by rw[<-hlen];exact List.length_pos_iff.2 h0
       have ho:o=off*B.sz:=by rcases h2 with h2|h2<;>omega
       have src:∀i cs,rows[i]? =some cs->∃c0,row.rows[off+i]? =some c0/\ep g n c0=some cs:=fun i cs hi=>by
        obtain⟨c0,kb,hf⟩:=l2 i cs hi
        rw[List.getElem?_take]at kb
        split at kb
        ·rw[List.getElem?_drop]at kb;exact⟨c0,kb,hf⟩
        ·simp at kb
       have cell:∀i j,i<len->j<row.sz->∃c0 a0 v,row.rows[off+i]? =some c0/\c0[j]? =some a0/\w.cell? ⟨B.b,o+(i*row.sz+j),none⟩=some v/\dd P w D ι a0 v:=fun i j hi hj=>by
        have sr:off+i<row.rows.length:=ah
        have e1:=List.getElem?_eq_getElem sr
        have N2:j<row.rows[off+i].length:=by rw[R.len _ (List.getElem_mem sr)];exact hj
        obtain⟨v,hv,mE⟩:=R.at_ _ _ _ _ e1 (List.getElem?_eq_getElem N2)
        refine⟨_,_,v,e1,List.getElem?_eq_getElem N2,?_,mE⟩
        rw[ho,R.sz,<-hv]
        congr 2
        rw[Nat.add_mul];omega
       refine both (.sl rows B.b o len cap row.sz (fun i j=>(w.cell? ⟨B.b,o+(i*row.sz+j),none⟩).getD undef) hlen h1 h4 R9 (fun cs dx=>?_) (fun cs dx b hb=>?_) (fun i j hi hj=>?_) (fun i j cs b hi hj=>?_)) rfl
       ·obtain⟨i,hi,rfl⟩:=List.getElem_of_mem dx
        obtain⟨c0,kb,hf⟩:=src i _ (List.getElem?_eq_getElem hi)
        rw[(jl hf).1];exact R.len c0 (List.mem_of_getElem? kb)
       ·obtain⟨i,hi,rfl⟩:=List.getElem_of_mem dx
        obtain⟨c0,kb,hf⟩:=src i _ (List.getElem?_eq_getElem hi)
        obtain⟨j,hj,rfl⟩:=List.getElem_of_mem hb
        obtain⟨a0,ma,LQ⟩:=(jl hf).2 j _ (List.getElem?_eq_getElem hj)
        obtain⟨v,_,mE⟩:=R.at_ _ _ _ _ kb ma
        exact((ih _ _ _ mE LQ).2 (R.flat c0 (List.mem_of_getElem? kb) a0 (List.mem_of_getElem? ma))).2
       ·obtain⟨c0,a0,v,_,_,hv,_⟩:=cell i j hi hj
        simp only[hv,Option.getD_some]
       ·obtain⟨c0,kb,hf⟩:=src i cs hi
        obtain⟨a0,ma,LQ⟩:=(jl hf).2 j b hj
        have mb:i<len:=by rw[<-hlen];exact(List.getElem?_eq_some_iff.1 hi).1
        have gY:j<row.sz:=by rw[<-R.len c0 (List.mem_of_getElem? kb)];exact(List.getElem?_eq_some_iff.1 ma).1
        obtain⟨c1,a1,v,e1,e2,hv,mE⟩:=cell i j mb gY
        rw[kb]at e1;injection e1 with e1;subst e1
        rw[ma]at e2;injection e2 with e2;subst e2
        simp only[hv,Option.getD_some]
        exact((ih _ _ _ mE LQ).2 (R.flat c0 (List.mem_of_getElem? kb) a0 (List.mem_of_getElem? ma))).1
     ·simp at h
    ·simp at h
   ·simp at h
  |ptr id i off=>
   rw[gF]at h
   split at h
   ·rename_i row hg
    split at h
    ·rename_i hw
     split at h
     ·rename_i c0 kb
      simp only[Option.map_eq_some_iff]at h
      obtain⟨cs,dx,rfl⟩:=h
      obtain⟨B,hB,R,R9⟩:=tV id row hg hw
      obtain⟨B',rfl,dL,hk⟩:=iN hr
      rw[hB]at dL;injection dL with dL;subst dL
      replace R:=R.row hk
      obtain⟨l1,l2⟩:=jl dx
      have at_:∀j b,cs[j]? =some b->∃a0 v,w.cell? ⟨B.b,i*B.sz+off+j,none⟩=some v/\dd P w D ι a0 v/\a0.cell=true/\gF g n a0=some b:=fun j b hj=>by
       obtain⟨a0,ma,hf⟩:=l2 j b hj
       rw[List.getElem?_drop]at ma
       obtain⟨v,hv,mE⟩:=R.at_ _ _ _ _ kb ma
       refine⟨a0,v,?_,mE,R.flat c0 (List.mem_of_getElem? kb) a0 (List.mem_of_getElem? ma),hf⟩
       rw[R.sz,Nat.add_assoc];exact hv
      refine both (.dn cs B.b _ (fun j=>(w.cell? ⟨B.b,i*B.sz+off+j,none⟩).getD undef) R9 (fun b hb=>?_) (fun j hj=>?_) (fun j b hj=>?_)) rfl
      ·obtain⟨j,hj,rfl⟩:=List.getElem_of_mem hb
       obtain⟨a0,v,_,mE,hc,hf⟩:=at_ j _ (List.getElem?_eq_getElem hj)
       exact((ih _ _ _ mE hf).2 hc).2
      ·obtain⟨a0,v,hv,_⟩:=at_ j _ (List.getElem?_eq_getElem hj)
       simp only[hv,Option.getD_some]
      ·obtain⟨a0,v,hv,mE,hc,hf⟩:=at_ j b hj
       simp only[hv,Option.getD_some]
       exact((ih _ _ _ mE hf).2 hc).1
     ·simp at h
    ·simp at h
   ·simp at h
  |agg cs=>
   rw[gF]at h
   simp only[Option.map_eq_some_iff]at h
   obtain⟨r',pf,rfl⟩:=h
   obtain⟨vs,f,rfl,h1,h2,h3,h4⟩:=iY hr
   obtain⟨l1,l2⟩:=jl pf
   have hI:kd P w D2 (.agg r') (.agg vs):=.agg r' vs f (by rw[h1,l1]) (fun b hb=>by
    obtain⟨j,hj,rfl⟩:=List.getElem_of_mem hb
    obtain⟨a0,ma,hf⟩:=l2 j _ (List.getElem?_eq_getElem hj)
    exact((ih _ _ _ (h4 j a0 ma) hf).2 (h2 a0 (List.mem_of_getElem? ma))).2) (fun j hj=>h3 j (by rw[<-l1];exact hj)) (fun j b hj=>by
    obtain⟨a0,ma,hf⟩:=l2 j b hj
    exact((ih _ _ _ (h4 j a0 ma) hf).2 (h2 a0 (List.mem_of_getElem? ma))).1)
   exact⟨.eV _ _ hI,fun hc=>by simp[AV.cell]at hc⟩
  |gJ cs=>
   rw[gF]at h
   simp only[Option.map_eq_some_iff]at h
   obtain⟨r',pf,rfl⟩:=h
   obtain⟨vs,f,rfl,h1,h3,h4⟩:=w9 hr
   obtain⟨l1,l2⟩:=jl pf
   exact⟨.gJ r' vs f (by rw[h1,l1]) (fun j hj=>h3 j (by rw[<-l1];exact hj)) (fun j b hj=>by
    obtain⟨a0,ma,hf⟩:=l2 j b hj
    exact(ih _ _ _ (h4 j a0 ma) hf).1),fun hc=>by simp[AV.cell]at hc⟩
  |fn f dh=>rw[gF]at h<;>(try simp at h)<;>(try(intros;simp_all))
  |int k m=>rw[gF]at h<;>(try simp at h)<;>(try subst h)<;>(try(rw[dq hr];exact⟨.eV _ _ (.int _ _),fun _=>⟨.int _ _,rfl⟩⟩))<;>(try(intros;simp_all))
  |bool b=>rw[gF]at h<;>(try simp at h)<;>(try subst h)<;>(try(rw[fw hr];exact⟨.eV _ _ (.bool _),fun _=>⟨.bool _,rfl⟩⟩))<;>(try(intros;simp_all))
  |str b=>rw[gF]at h<;>(try simp at h)<;>(try subst h)<;>(try(rw[gi hr];exact⟨.eV _ _ (.str _),fun _=>⟨.str _,rfl⟩⟩))<;>(try(intros;simp_all))
  |bI=>rw[gF]at h<;>(try simp at h)<;>(try subst h)<;>(try(rw[ji hr];exact⟨.eV _ _ .bI,fun _=>⟨.bI,rfl⟩⟩))<;>(try(intros;simp_all))
  |jo=>rw[gF]at h<;>(try simp at h)<;>(try subst h)<;>(try(rw[yJ hr];exact⟨.eV _ _ .jo,fun _=>⟨.jo,rfl⟩⟩))<;>(try(intros;simp_all))
  |jE=>rw[gF]at h<;>(try simp at h)<;>(try subst h)<;>(try(rw[EF hr];exact⟨.eV _ _ .jE,fun _=>⟨.jE,rfl⟩⟩))<;>(try(intros;simp_all))
  |vU f dh=>rw[gF]at h<;>(try simp at h)<;>(try(intros;simp_all))
  |iA=>rw[gF]at h<;>(try simp at h)<;>(try subst h)<;>(try(cases hr with|eV _ _ hr=>cases hr;exact both .iA rfl))<;>(try(intros;simp_all))
  |sl rows=>rw[gF]at h<;>(try simp at h)<;>(try(intros;simp_all))
  |dn cs=>rw[gF]at h<;>(try simp at h)<;>(try(intros;simp_all))
end
end Go.Proofs.YtgoljkjaameagaaGreat.V

namespace Go.Proofs.YtgoljkjaameagaaGreat.V
open Go.RowKit
variable {P:Program} {w w':World} {D D':Nat->Prop} {ι ι':Names}
section
variable {g:Rows} {hs:Nat} {env:Env} {a:Act} {o:Oper} {id:Id} {v:AV}
theorem gR.Kl (S:gR P hs D ι g w) {i:Id} {r r':Row} {B:uf} {ob:Obj} (hid:g i=some r) (hw:r.w=true) (hB:ι i=some B)
  (hR:(∀a v,dd P w D ι a v->dd P {w with heap:=w.heap.setIfInBounds B.b ob} D ι a v)->(w.heap.setIfInBounds B.b ob)[B.b]? =some ob->iF P {w with heap:=w.heap.setIfInBounds B.b ob} D ι B r'):
  gR P hs D ι (bE g i r') {w with heap:=w.heap.setIfInBounds B.b ob}/\Step hs D ι w D ι {w with heap:=w.heap.setIfInBounds B.b ob}:=by
 obtain⟨B0,y7,R,j6,lk⟩:=S.row i r hid
 rw[hB]at y7;injection y7 with y7;subst y7
 have other:∀b,b≠B.b->(w.heap.setIfInBounds B.b ob)[b]? =w.heap[b]? :=fun b hb=>by simp[Ne.symm hb]
 have hd:∀b,D b->(w.heap.setIfInBounds B.b ob)[b]? =w.heap[b]? :=fun b hb=>other b (by rintro rfl;exact lk hw hb)
 have hr:∀a v,dd P w D ι a v->dd P {w with heap:=w.heap.setIfInBounds B.b ob} D ι a v:=fun a v h=>h.frame hd (fun _ h=>h) (fun _ _ h=>h)
 refine⟨⟨by simpa using S.lo,fun b hb=>by simpa using S.dead b hb,fun j q h=>?_,fun j j' q q' C C' h h' L6 hC wH he=>?_⟩,⟨⟨rfl,rfl,rfl,by simp,fun k hk=>other k (by have:=j6 hw;omega)⟩,hd,fun _ h=>h,fun _ _ h=>h,fun _ h=>.inl h⟩⟩
 ·unfold bE at h
  split at h
  ·rename_i e
   subst e
   injection h with h;subst h
   exact⟨B,hB,hR hr (by simp[R.lt]),fun _=>j6 hw,fun _=>lk hw⟩
  ·rename_i e
   obtain⟨C,hC,RC,k1,k2⟩:=S.row j q h
   refine⟨C,hC,RC.frame (other C.b (fun QK=>e ?_)) hr,k1,k2⟩
   exact(S.inj i j r q B C hid h hw hB hC QK.symm).symm
 ·unfold bE at h h'
  have get:∀j p,(if j=i then some r' else g j)=some p->∃p0,g j=some p0/\(p.w=true->p0.w=true):=fun j p hp=>by
   split at hp
   ·rename_i e;subst e;injection hp with hp;subst hp;exact⟨r,hid,fun _=>hw⟩
   ·exact⟨p,hp,fun h=>h⟩
  obtain⟨p,hp,Uo⟩:=get _ _ h
  obtain⟨p',SJ,_⟩:=get _ _ h'
  exact S.inj j j' p p' C C' hp SJ (Uo L6) hC wH he
theorem Hz {s:TS} {x y:AV} {u v:Value} (he:fQ s x y=some true) (hx:dd P w D ι x u) (hy:dd P w D ι y v):u=v/\∀n,Instr.sameBits n u v=true:=by
 unfold fQ at he
 split at he
 ·split at he
  ·rename_i hk
   subst hk
   simp at he;subst he
   rw[dq hx,dq hy]
   exact⟨rfl,fun n=>by cases n<;>simp[Instr.sameBits]⟩
  ·cases he
 ·simp at he;subst he
  rw[fw hx,fw hy]
  exact⟨rfl,fun n=>by cases n<;>simp[Instr.sameBits]⟩
 ·simp at he;subst he
  rw[gi hx,gi hy]
  exact⟨rfl,fun n=>by cases n<;>simp[Instr.sameBits,K2]⟩
 ·cases he
theorem Dh {n:Nat}:∀{ts:List TS} {xs ys:List AV} {vs us:List Value},e6 ts xs ys=some true->vs.length=xs.length->us.length=ys.length->(∀(j:Nat) (a:AV),xs[j]? =some a->∃u,vs[j]? =some u/\dd P w D ι a u)->(∀(j:Nat) (a:AV),ys[j]? =some a->∃u,us[j]? =some u/\dd P w D ι a u)->
  us.length=vs.length/\(us.zip vs).all (fun p=>Instr.sameBits n p.1 p.2)=true
 |[],[],[],vs,us,_,h1,h2,_,_=>by
  cases vs<;>cases us<;>simp_all
 |[],x::xs,ys,vs,us,h,_,_,_,_=>by simp[e6]at h
 |[],[],y::ys,vs,us,h,_,_,_,_=>by simp[e6]at h
 |t::ts,[],ys,vs,us,h,_,_,_,_=>by simp[e6]at h
 |t::ts,x::xs,[],vs,us,h,_,_,_,_=>by simp[e6]at h
 |t::ts,x::xs,y::ys,[],us,h,h1,_,_,_=>by simp at h1
 |t::ts,x::xs,y::ys,v::vs,[],h,_,h2,_,_=>by simp at h2
 |t::ts,x::xs,y::ys,v::vs,u::us,h,h1,h2,hx,hy=>by
  unfold e6 at h
  split at h
  ·rename_i a b ha hb
   simp only[Option.some.injEq,Bool.and_eq_true]at h
   obtain⟨rfl,rfl⟩:=h
   obtain⟨v',pc,rv⟩:=hx 0 x rfl
   obtain⟨u',HO,ru⟩:=hy 0 y rfl
   simp at pc HO;subst pc;subst HO
   obtain⟨e1,e2⟩:=Hz ha rv ru
   obtain⟨q1,q2⟩:=Dh (n:=n) hb (by simpa using h1) (by simpa using h2) (fun j a hj=>by simpa using hx (j+1) a (by simpa using hj)) (fun j a hj=>by simpa using hy (j+1) a (by simpa using hj))
   refine⟨by simp[q1],?_⟩
   simp only[List.zip_cons_cons,List.all_cons,q2,Bool.and_true]
   rw[<-e1]
   have:=e2 n
   rw[<-e1]at this
   exact this
  ·cases h
theorem Em {m:MK} {key:List AV}:∀{rows:List (List AV)} {i j:Nat},gH m key rows i=some (some j)->∃cs,i<=j/\rows[j-i]? =some cs/\e6 m.ts key (cs.take m.ks)=some true
 |[],i,j,h=>by simp[gH]at h
 |cs::rows,i,j,h=>by
  unfold gH at h
  split at h
  ·rename_i hq
   simp at h;subst h
   exact⟨cs,Nat.le_refl _,by simp,hq⟩
  ·obtain⟨c,h1,h2,h3⟩:=Em h
   exact⟨c,ah,by rw[show j-i=(j-(i+1))+1 by omega];simpa using h2,h3⟩
  ·cases h
theorem ym {m:MK} {k:AV} {rows:List (List AV)} {fi:Option Nat} (h:gD m k rows=some fi):k.isAgg=m.ka/\k.cells.length=m.ks/\(k.cells.all AV.cell=true)/\gH m k.cells rows 0=some fi:=by
 unfold gD at h
 split at h
 ·rename_i hc;exact⟨hc.1,hc.2.1,hc.2.2,h⟩
 ·cases h
theorem MM {m:MK} {k y:AV} (h1:k.isAgg=m.ka) (h2:k.cells.length=m.ks):part m.ka m.ks (k.cells++[y])=some k/\(k.cells++[y])[m.ks]? =some y:=by
 refine⟨?_,by rw[List.getElem?_append_right ah,h2,Nat.sub_self];rfl⟩
 cases hk:m.ka with
 |false=>
  rw[hk]at h1
  rw[xD h1];rfl
 |true=>
  rw[hk]at h1
  cases k<;>simp[AV.isAgg]at h1
  rename_i cs
  simp only[AV.cells]at h2 ⊢
  simp only[part,if_true]
  rw[if_pos (by simp;omega),<-h2,List.take_left']
  rfl
theorem stays {k:TypeId} {m:MK} (hK:Hl P k m) {key kv:AV} {u AA:Value} {cs:List AV} (h1:key.isAgg=m.ka) (hr:dd P w D ι key u) (hp:part m.ka m.ks cs=some kv) (ho:dd P w D ι kv AA) (he:e6 m.ts key.cells (cs.take m.ks)=some true):(Instr.keyThatStays AA u).run P w=.ok u w:=by
 have hs:Instr.sameBits 10000 AA u=true:=by
  rcases hK with⟨s,rfl,hs⟩|⟨fs,ts,rfl,s6,zx,dC,dP⟩
  ·rw[xD h1]at he
   cases cs with
   |nil=>simp[part]at hp
   |cons c l=>
    simp[part]at hp;subst hp
    simp only[MK.ks,List.length_cons,List.length_nil,Nat.zero_add,List.take_succ_cons,List.take_zero,e6]at he
    cases hq:fQ s key c with
    |none=>rw[hq]at he;simp at he
    |some b=>
     rw[hq]at he;simp at he;subst he
     obtain⟨e1,e2⟩:=Hz hq hr ho
     rw[<-e1]
     have:=e2 10000
     rwa [<-e1]at this
  ·cases key<;>simp[AV.isAgg]at h1
   rename_i ks
   simp only[part,if_true]at hp
   split at hp
   ·simp only[Option.some.injEq]at hp;subst hp
    obtain⟨vs,rfl,n1,r1⟩:=tA hr
    obtain⟨us,rfl,n2,r2⟩:=tA ho
    obtain⟨q1,q2⟩:=Dh (n:=9999) (vs:=vs.toList) (us:=us.toList) he (by simpa[AV.cells]using n1) (by simpa using n2) (fun j a hj=>by simpa using r1 j a hj) (fun j a hj=>by simpa using r2 j a hj)
    simp only[Instr.sameBits,Bool.and_eq_true,beq_iff_eq]
    exact⟨by simpa using q1,q2⟩
   ·cases hp
 simp[Instr.keyThatStays,hs]
theorem Nd {es:Array MapEntry} {clock:Nat} (h:Hn es clock) (k v:Value):Hn (es.push ⟨k,v,clock⟩) (clock+1):=by
 refine⟨fun x hx=>?_,?_⟩
 ·simp only[Array.toList_push,List.mem_append,List.mem_singleton]at hx
  rcases hx with hx|rfl
  ·have:=h.1 x hx;omega
  ·exact Nat.lt_succ_self _
 ·simp only[Array.toList_push,List.map_append,List.map_cons,List.map_nil]
  refine List.nodup_append.2 ⟨h.2,by simp,fun a ha b hb=>?_⟩
  obtain⟨x,hx,rfl⟩:=List.mem_map.1 ha
  simp at hb;subst hb
  have:=h.1 x hx;omega
theorem G2 {es:Array MapEntry} {clock:Nat} (h:Hn es clock) (j:Nat) (k v:Value):Hn (es.modify j fun e=>{e with key:=k,val:=v}) clock:=by
 have e:(es.modify j fun e=>{e with key:=k,val:=v}).toList.map (·.born)=es.toList.map (·.born):=by
  refine List.ext_getElem? fun i=>?_
  simp only[List.getElem?_map,Array.getElem?_toList,Array.getElem?_modify]
  split
  ·cases es[i]? <;>rfl
  ·rfl
 refine⟨fun x hx=>?_,by rw[e];exact h.2⟩
 have hb:x.born∈(es.modify j fun e=>{e with key:=k,val:=v}).toList.map (·.born):=List.mem_map_of_mem hx
 rw[e]at hb
 obtain⟨y,hy,hyb⟩:=List.mem_map.1 hb
 rw[<-hyb];exact h.1 y hy
theorem J9 {es:Array MapEntry} {clock:Nat} (h:Hn es clock) {j:Nat} (hj:j<es.size):Hn (es.eraseIdxIfInBounds j) clock:=by
 have e:(es.eraseIdxIfInBounds j).toList=es.toList.eraseIdx j:=by
  unfold Array.eraseIdxIfInBounds
  rw[dif_pos hj,Array.toList_eraseIdx]
 refine⟨fun x hx=>h.1 x ((List.eraseIdx_sublist _ _).subset (by rwa [e]at hx)),?_⟩
 rw[e]
 exact((List.eraseIdx_sublist es.toList j).map (·.born)).nodup h.2
theorem Dp {k y:AV} (h1:k.cells.all AV.cell=true) (h2:y.cell=true):∀a∈k.cells++[y],a.cell=true:=fun a ha=>by
 rcases List.mem_append.1 ha with ha|ha
 ·exact List.all_eq_true.1 h1 a ha
 ·rw[List.mem_singleton.1 ha];exact h2
theorem RP {t:TypeId} {x k y:Operand} {m:MK} {z:K} {x' k' y':O} {g':Rows} (S:gR P hs D ι g w) (E:cD P w D ι env a) (ho:o.op=.mapUpdate t x k y∨o.op=.insert t x k y) (hc:uq P t=some (m,z)) (hx:cO P x=some x') (hk:cO P k=some k') (hy:cO P y=some y')
  (hv:bG (.set m) [dc env x',dc env k',dc env y'] g=some g'):Fi P hs a o w D ι id .undef g':=by
 obtain⟨kt,e,i,zv,ht,hi,xV,XE,hK⟩:=sN hc
 simp only[bG,Option.bind_eq_some_iff]at hv
 obtain⟨p,hp,fi,E4,hv⟩:=hv
 split at hv
 ·rename_i hcond
  obtain⟨hw,hyc,_⟩:=hcond
  simp only[Option.some.injEq]at hv;subst hv
  obtain⟨B,hu,hg,hB,wY,es,clock,hb,fm,hlen,hM⟩:=BQ S (dw E hx) hp
  have rk:=dw E hk
  have ry:=dw E hy
  obtain⟨NT,res,hf,hF⟩:=xJ (B:=B) hK rk fm hM E4
  obtain⟨k1,k2,k3,k4⟩:=ym E4
  obtain⟨B',dL,R,_⟩:=S.row p.1 p.2 hg
  rw[hB]at dL;injection dL with dL;subst dL
  obtain⟨pk1,pk2⟩:=MM (y:=dc env y') k1 k2
  have eR:(getObj B.b).run P w=.ok (.map es clock) w:=MapKept.run_getObj_map hb
  rcases hF with⟨rfl,rfl⟩|⟨j,en,rfl,he,rfl⟩
  ·have pa:=S.Kl (ob:=.map (es.push ⟨a.eval k,a.eval y,clock⟩) (clock+1)) (r':={p.2 with rows:=dE p.2.rows ((dc env k').cells++[dc env y']) none}) hg hw hB fun hr k8=>⟨R.sz,fun cs dx=>?_,fun s8=>(by rw[wY]at s8;cases s8),fun m' DL=>?_,fun c hc=>(by rw[wY]at hc;cases hc)⟩
   ·refine⟨undef,_,ι,.inr ⟨?_,rfl⟩,pa.2,pa.1,dd.undef,fun _ _=>rfl⟩
    rcases ho with ho|ho<;>
    ·simp only[execOp,ho,Instr.mapUpdate,hu,Sem.run_bind,run_underlying ht,Result.andThen_ok,eR,NT,hf,MapKept.run_setObj_map _ hb,Sem.run_pure]
   ·rcases List.mem_append.1 dx with h|h
    ·exact R.flat cs h
    ·rw[List.mem_singleton.1 h];exact Dp k3 hyc
   ·rw[wY]at DL;simp only[Option.some.injEq,BK.map.injEq]at DL;subst DL
    refine⟨(R.map m wY).1,_,_,k8,by simp[dE,fm],⟨fun cs dx=>?_,Nd hlen.2 _ _⟩,fun q cs hq=>?_⟩
    ·rcases List.mem_append.1 dx with h|h
     ·exact hlen.1 cs h
     ·rw[List.mem_singleton.1 h];simp[k2]
    ·rcases Nat.lt_or_ge q p.2.rows.length with ei|o9
     ·simp only[dE]at hq
      rw[List.getElem?_append_left ei]at hq
      obtain⟨en,kv,vv,q1,q2,q3,q4,q5⟩:=hM q cs hq
      exact⟨en,kv,vv,by rw[Array.getElem?_push_lt ah];rw[Array.getElem?_eq_getElem ah]at q1;simpa using q1,q2,q3,hr _ _ q4,hr _ _ q5⟩
     ·simp only[dE]at hq
      rw[List.getElem?_append_right o9]at hq
      have QW:q=p.2.rows.length:=by
       have:=(List.getElem?_eq_some_iff.1 hq).1
       simp at this;omega
      subst QW
      simp at hq;subst hq
      exact⟨⟨a.eval k,a.eval y,clock⟩,_,_,by rw[<-fm];simp,pk1,pk2,hr _ _ rk,hr _ _ ry⟩
  ·simp only[Nat.zero_add]at k4 E4 hf ⊢
   obtain⟨Ua,_,OZ,heq⟩:=Em k4
   simp only[Nat.sub_zero]at OZ
   obtain⟨U3,kv,vv,q1,q2,_,q4,_⟩:=hM j Ua OZ
   have DG:U3=en:=by
    have h1:es.toList[j]? =some U3:=by simpa using q1
    rw[he]at h1;injection h1 with h1;exact h1.symm
   subst DG
   have dC:=stays (w:=w) hK k1 rk q2 q4 heq
   have pa:=S.Kl (ob:=.map (es.modify j fun e=>{e with key:=a.eval k,val:=a.eval y}) clock) (r':={p.2 with rows:=dE p.2.rows ((dc env k').cells++[dc env y']) (some j)}) hg hw hB fun hr k8=>⟨R.sz,fun cs dx=>?_,fun s8=>(by rw[wY]at s8;cases s8),fun m' DL=>?_,fun c hc=>(by rw[wY]at hc;cases hc)⟩
   ·refine⟨undef,_,ι,.inr ⟨?_,rfl⟩,pa.2,pa.1,dd.undef,fun _ _=>rfl⟩
    rcases ho with ho|ho<;>
    ·simp only[execOp,ho,Instr.mapUpdate,hu,Sem.run_bind,run_underlying ht,Result.andThen_ok,eR,NT,hf,q1,Option.map_some,Option.getD_some,dC,MapKept.run_setObj_map _ hb,Sem.run_pure]
   ·rcases List.mem_or_eq_of_mem_set dx with h|h
    ·exact R.flat cs h
    ·rw[h];exact Dp k3 hyc
   ·rw[wY]at DL;simp only[Option.some.injEq,BK.map.injEq]at DL;subst DL
    have gY:=(List.getElem?_eq_some_iff.1 OZ).1
    refine⟨(R.map m wY).1,_,_,k8,by simp[dE,fm],⟨fun cs dx=>?_,G2 hlen.2 _ _ _⟩,fun q cs hq=>?_⟩
    ·rcases List.mem_or_eq_of_mem_set dx with h|h
     ·exact hlen.1 cs h
     ·rw[h];simp[k2]
    ·simp only[dE,List.getElem?_set]at hq
     split at hq
     ·rename_i Uk
      subst Uk
      (try rw[if_pos gY]at hq)
      injection hq with hq;subst hq
      exact⟨{U3 with key:=a.eval k,val:=a.eval y},_,_,by rw[Array.getElem?_modify];simp[q1],pk1,pk2,hr _ _ rk,hr _ _ ry⟩
     ·rename_i Uk
      obtain⟨en,kv,vv,q1,q2,q3,q4,q5⟩:=hM q cs hq
      exact⟨en,kv,vv,by rw[Array.getElem?_modify];simp[Uk,q1],q2,q3,hr _ _ q4,hr _ _ q5⟩
 ·cases hv
theorem RN {t t':TypeId} {x k:Operand} {m:MK} {z:K} {x' k':O} {g':Rows} (S:gR P hs D ι g w) (E:cD P w D ι env a) (ho:o.op=.call {callee:=.builtin .delete,args:= #[x,k],argTypes:= #[t,t']}) (hc:uq P t=some (m,z)) (hx:cO P x=some x') (hk:cO P k=some k')
  (hv:bG (.del m) [dc env x',dc env k'] g=some g'):Fi P hs a o w D ι id .undef g':=by
 obtain⟨kt,e,i,zv,ht,hi,xV,XE,hK⟩:=sN hc
 simp only[bG,Option.bind_eq_some_iff]at hv
 obtain⟨p,hp,fi,E4,hv⟩:=hv
 split at hv
 ·rename_i hw
  simp only[Option.some.injEq]at hv;subst hv
  obtain⟨B,hu,hg,hB,wY,es,clock,hb,fm,hlen,hM⟩:=BQ S (dw E hx) hp
  have rk:=dw E hk
  obtain⟨NT,res,hf,hF⟩:=xJ (B:=B) hK rk fm hM E4
  obtain⟨k1,k2,k3,k4⟩:=ym E4
  obtain⟨B',dL,R,_⟩:=S.row p.1 p.2 hg
  rw[hB]at dL;injection dL with dL;subst dL
  have eR:(getObj B.b).run P w=.ok (.map es clock) w:=MapKept.run_getObj_map hb
  have go:∀ob,(Builtin.delete_ #[t,t'] o.type #[a.eval x,a.eval k]).run P w=.ok (.tuple #[]) {w with heap:=w.heap.setIfInBounds B.b ob}->(execOp a.eval o).run P w=.ok (.value undef) {w with heap:=w.heap.setIfInBounds B.b ob}:=fun ob h=>by
   simp only[execOp,ho,resolve,Sem.run_bind,Sem.run_pure,Result.andThen_ok,invoke,builtin,Array.map]
   simp[h,undef]
  rcases hF with⟨rfl,rfl⟩|⟨j,en,rfl,he,rfl⟩
  ·have pa:=S.Kl (ob:=.map es clock) (r':={p.2 with rows:=dG p.2.rows none}) hg hw hB fun hr k8=>⟨R.sz,R.flat,fun s8=>(by rw[wY]at s8;cases s8),fun m' DL=>?_,fun c hc=>(by rw[wY]at hc;cases hc)⟩
   ·refine⟨undef,_,ι,.inl (go _ ?_),pa.2,pa.1,dd.undef,fun _ _=>rfl⟩
    simp[Builtin.delete_,hu,run_underlying ht,eR,NT,hf,MapKept.run_setObj_map _ hb]
   ·rw[wY]at DL;simp only[Option.some.injEq,BK.map.injEq]at DL;subst DL
    exact⟨(R.map m wY).1,_,_,k8,fm,hlen,fun q cs hq=>by
     obtain⟨en,kv,vv,q1,q2,q3,q4,q5⟩:=hM q cs hq
     exact⟨en,kv,vv,q1,q2,q3,hr _ _ q4,hr _ _ q5⟩⟩
  ·simp only[Nat.zero_add]at hf ⊢
   have gY:j<es.size:=by have:=(List.getElem?_eq_some_iff.1 he).1;simpa using this
   have pa:=S.Kl (ob:=.map (es.eraseIdxIfInBounds j) clock) (r':={p.2 with rows:=dG p.2.rows (some j)}) hg hw hB fun hr k8=>⟨R.sz,fun cs dx=>R.flat cs (List.mem_of_mem_eraseIdx dx),fun s8=>(by rw[wY]at s8;cases s8),fun m' DL=>?_,fun c hc=>(by rw[wY]at hc;cases hc)⟩
   ·refine⟨undef,_,ι,.inl (go _ ?_),pa.2,pa.1,dd.undef,fun _ _=>rfl⟩
    simp[Builtin.delete_,hu,run_underlying ht,eR,NT,hf,MapKept.run_setObj_map _ hb]
   ·rw[wY]at DL;simp only[Option.some.injEq,BK.map.injEq]at DL;subst DL
    have he2:∀q,(es.eraseIdxIfInBounds j)[q]? =(es.toList.eraseIdx j)[q]? :=fun q=>by
     unfold Array.eraseIdxIfInBounds
     rw[dif_pos gY,<-Array.getElem?_toList,Array.toList_eraseIdx]
    refine⟨(R.map m wY).1,_,_,k8,by simp[dG,Array.eraseIdxIfInBounds,gY,List.length_eraseIdx,<-fm],⟨fun cs dx=>hlen.1 cs (List.mem_of_mem_eraseIdx dx),J9 hlen.2 gY⟩,fun q cs hq=>?_⟩
    simp only[dG,List.getElem?_eraseIdx]at hq
    split at hq
    ·rename_i ei
     obtain⟨en,kv,vv,q1,q2,q3,q4,q5⟩:=hM q cs hq
     exact⟨en,kv,vv,by rw[he2,List.getElem?_eraseIdx,if_pos ei];simpa using q1,q2,q3,hr _ _ q4,hr _ _ q5⟩
    ·rename_i ei
     obtain⟨en,kv,vv,q1,q2,q3,q4,q5⟩:=hM (q+1) cs hq
     exact⟨en,kv,vv,by rw[he2,List.getElem?_eraseIdx,if_neg ei];simpa using q1,q2,q3,hr _ _ q4,hr _ _ q5⟩
 ·cases hv
end
end Go.Proofs.YtgoljkjaameagaaGreat.V
