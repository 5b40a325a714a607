/- A small language in which the program's functions are read by value: its values, its operations, its code, and how the program's code is brought into it. -/
import Derived.WalkKit
import Derived.WalkSpells
import Derived.WalkLawsBesides
import Derived.Lib.Hide
import Derived.Great.BuildSlice
import Derived.Conc.LoneCalls
import Derived.MapKept
import Derived.WideKeyRuns
set_option linter.unusedVariables false
set_option linter.unusedSimpArgs false
set_option maxRecDepth 100000
set_option maxHeartbeats 16000000
namespace Go.Proofs.YtgoljkjaameagaaGreat.V
open Go.RowKit
structure Id where
  site:Nat
  br:Nat
  deriving DecidableEq,Repr
inductive TS where
  |tI|tB|tS
  deriving Repr,DecidableEq
structure MK where
  ka:Bool
  ts:List TS
  deriving Repr,DecidableEq
inductive AV where
  |int (k:IntKind) (n:Int)
  |bool (b:Bool)
  |str (s:ByteArray)
  |cj|il|jC
  |sl (rows:List (List AV))
  |own (id:Id) (off len:Nat)
  |ptr (id:Id) (i off:Nat)
  |dp (cs:List AV)
  |agg (cs:List AV)
  |iA (vs:List AV)
  |fn (f:Nat) (dn:List AV)
  |map (id:Id) (m:MK)
  |jJ
  |vh (f:Nat) (first:List AV)
  |tj (id:Id)
  deriving Inhabited
def AV.undef:AV:=.iA []
def AV.cell:AV->Bool
  | .agg _| .iA _=>false
  |_=>true
def AV.cells:AV->List AV
  | .agg cs=>cs
  |v=>[v]
inductive K where
  |int (k:IntKind) (n:Int)
  |bool (b:Bool)
  |str (l:List UInt8)
  |cj|il|jC|jJ
  deriving Repr,DecidableEq
def K.val:K->Value
  | .int k n=>.int k n
  | .bool b=>.bool b
  | .str l=>.string ⟨l.toArray⟩
  | .cj=>.slice none 0 0
  | .il=>.pointer none
  | .jC=>.nilFunc
  | .jJ=>.map none
def K.av:K->AV
  | .int k n=>.int k n
  | .bool b=>.bool b
  | .str l=>.str ⟨l.toArray⟩
  | .cj=>.cj
  | .il=>.il
  | .jC=>.jC
  | .jJ=>.jJ
def HY:Value->Option K
  | .int k n=>some (.int k n)
  | .bool b=>some (.bool b)
  | .string s=>some (.str s.data.toList)
  | .slice none 0 0=>some .cj
  | .pointer none=>some .il
  | .nilFunc=>some .jC
  | .map none=>some .jJ
  |_=>none
inductive O where
  |t (n:Nat)
  |k (c:K)
  |ka (cs:List K)
  |f (n:Nat)
  deriving Repr,DecidableEq
inductive MQ where
  |new (m:MK)
  |look (m:MK) (ok:Bool) (zero:K)
  |len (m:MK)
  deriving Repr,DecidableEq
inductive MW where
  |set (m:MK)
  |del (m:MK)
  deriving Repr,DecidableEq
inductive gK where
  |dv (x:O)
  |pick (c a b:O)
  |new (zero:List K)
  |box (x:O)
  |build (zero:List K) (parts:List (Nat×Nat×O))
  |jS (sz len:Nat) (parts:List O)
  |load (agg:Bool) (n:Nat) (a:O)
  |store (n:Nat) (a x:O)
  |zQ (x:O)
  |bin (op:BinOp) (k:IntKind) (x y:O)
  |sh (left:Bool) (x y:O)
  |MC (op:BinOp) (x y:O)
  |PZ (neg:Bool) (t:TS) (x y:O)
  |UW (neg:Bool) (ts:List TS) (x y:O)
  |SV (neg NC:Bool) (x:O)
  |UX (neg:Bool) (x:O)
  |not (x:O)
  |neg (x:O)
  |conv (k:IntKind) (x:O)
  |F5 (x:O)
  |slice (sz:Nat) (x:O) (lo hi:Option O)
  |AW (x:O) (lo hi:Option O)
  |fN (off:Nat) (x:O)
  |field (agg:Bool) (off n:Nat) (x:O)
  |ej (sz:Nat) (x i:O)
  |Nw (len sz:Nat) (x i:O)
  |Ny (x i:O)
  |eO (agg:Bool) (len n:Nat) (x i:O)
  |extract (i:Nat) (x:O)
  |len (x:O)
  |NK (x:O)
  |append (sz:Nat) (x y:O)
  |copy (sz:Nat) (x y:O)
  |clear (zero:List K) (x:O)
  |NS (f:Nat) (dn:List O)
  |NT (f:Nat) (first:List O)
  |j9 (zero:List K) (len cap:O)
  |call (f:Nat) (args:List O)
  |tW (x:O) (args:List O)
  |mq (q:MQ) (xs:List O)
  |mw (q:MW) (xs:List O)
  |KR (x:O)
  |KI (x:O)
  |snd (x y:O)
  |Rk (x:O)
  |bad
  deriving Repr,DecidableEq
structure bR where
  dst:Option Nat
  op:gK
  guard:Option (Nat×Bool)
  site:Nat
  hid:List Nat
  deriving Repr,DecidableEq
def q (d:Nat) (op:gK) (s:Nat):bR:=⟨some d,op,none,s,[]⟩
inductive VC where
  |skip
  |eS (draw:Bool) (ops:List bR)
  |seq (a b:VC)
  |cond (c:O) (x y:VC)
  |block (id:Nat) (c:VC)
  |loop (c:VC)
  |exit (id:Nat)
  |ret
  |one (o:bR) (c:VC)
  |both (a b:VC)
  |loc (t s:Nat) (y:O) (c:VC)
  |PV (ops:List bR)
  deriving Repr,DecidableEq
inductive qd where
  |tmp (t:Nat)
  |cell (agg:Bool) (n:Nat) (t:Nat)
  deriving Repr,DecidableEq
structure yE where
  ntmps:Nat
  zj:Nat
  body:VC
  res:List qd
  deriving Repr,DecidableEq
def gj (P:Program) (f:Nat):Bool:=
  match P.funcs[f]? with
  |some fn=>fn.body.isSome&& !(fn.name== "runtime.NumGoroutine")
  |none=>false
def cO (P:Program):Operand->Option O
  | .tmp t=>some (.t t)
  | .const (.agg cs)=>(cs.toList.mapM HY).map O.ka
  | .const v=>(HY v).map O.k
  | .global _=>none
  | .func f=>if gj P f then some (.f f)else none
def jN (P:Program) (t:TypeId):Option (List K):=
  match P.info? t with
  |some i=>match i.zero with
    |some v=>if v.cells.size=i.size then v.cells.toList.mapM HY else none
    |none=>none
  |none=>none
def ez (P:Program) (t:TypeId):Option Nat:=(P.info? t).map (·.size)
def om (P:Program) (t:TypeId):Option Bool:=
  match P.underlying t with
  |some (.struct _)|some (.array _ _)=>some true
  |some _=>some false
  |none=>none
inductive VR where
  |sc (t:TS)|ag (ts:List TS)
  deriving Repr,DecidableEq
def fG (P:Program) (t:TypeId):Option TS:=
  match P.underlying t with
  |some .bool=>some .tB
  |some (.int _)=>some .tI
  |some .string=>some .tS
  |_=>none
def Es (P:Program) (inner:List Field->Option (List TS)):Nat->List Field->Option (List TS)
  |_,[]=>some []
  |off,f::r=>
    if f.offset=off/\f.name≠ "_" then
      match fG P f.type with
      |some t=>if om P f.type=some false then(Es P inner (off+1) r).map (t::·)else none
      |none=>match P.underlying f.type with
        |some (.struct fs)=>if !P.stoodInHeld f.type then match inner fs.toList with
          |some ts=>if ez P f.type=some ts.length/\ts≠[]then(Es P inner (off+ts.length) r).map (ts++·)else none
          |none=>none else none
        |_=>none
    else none
def eP (P:Program):Nat->Nat->List Field->Option (List TS)
  |0,_,[]=>some []
  |0,_,_::_=>none
  |d+1,off,fs=>Es P (eP P d 0) off fs
def V7 (P:Program) (t:TypeId):Option VR:=
  match fG P t with
  |some s=>some (.sc s)
  |none=>match P.underlying t with
    |some (.struct fs)=>if !P.stoodInHeld t&& !P.eqGuardType P.depth t then(eP P 4 0 fs.toList).map VR.ag else none
    |_=>none
def td (P:Program) (fs:Array Field):List (Nat×O)->Option (List (Nat×Nat×O))
  |[]=>some []
  |(i,x)::r=>match fs[i]? with
    |some f=>match ez P f.type with
      |some n=>(td P fs r).map ((f.offset,n,x)::·)
      |none=>none
    |none=>none
def tg (P:Program) (ps:Array (Nat×Operand)):Option (List (Nat×O)):=ps.toList.mapM fun(i,x)=>(cO P x).map (i,·)
def r6 (P:Program):Option Operand->Option (Option O)
  |none=>some none
  |some x=>(cO P x).map some
def te (P:Program) (neg:Bool) (t:TypeId) (x y:Operand):Option gK:=
  match y with
  | .const (.slice none 0 0)=>match P.underlying t with
    |some (.slice _)=>(cO P x).map (gK.SV neg false)
    |_=>none
  | .const .nilFunc=>match P.underlying t with
    |some (.func ..)=>(cO P x).map (gK.SV neg true)
    |_=>none
  | .const (.pointer none)=>match P.underlying t with
    |some (.pointer _)=>(cO P x).map (gK.UX neg)
    |_=>none
  |_=>match V7 P t with
    |some (.sc s)=>do pure (.PZ neg s (<-cO P x) (<-cO P y))
    |some (.ag ts)=>do pure (.UW neg ts (<-cO P x) (<-cO P y))
    |_=>none
def vU (P:Program) (op:BinOp) (t:TypeId) (x y:Operand):Option gK:=
  match op with
  | .eql=>te P false t x y
  | .neq=>te P true t x y
  | .shl=>do pure (.sh true (<-cO P x) (<-cO P y))
  | .shr=>do pure (.sh false (<-cO P x) (<-cO P y))
  |op=>match P.underlying t with
    |some (.int k)=>do pure (.bin op k (<-cO P x) (<-cO P y))
    |some .string=>do pure (.MC op (<-cO P x) (<-cO P y))
    |_=>none
def tf (P:Program) (t:TypeId):Option (MK×K):=
  match P.underlying t with
  |some (.map k e)=>match om P e,(P.info? e).bind (·.zero),fG P k,P.underlying k with
    |some false,some zv,some s,_=>(HY zv).map fun z=>(⟨false,[s]⟩,z)
    |some false,some zv,none,some (.struct fs)=>match eP P 4 0 fs.toList,HY zv with
      |some ts,some z=>if !P.stoodInHeld k/\fs.toList.all (fun f=>(fG P f.type).isSome)then some (⟨true,ts⟩,z)else none
      |_,_=>none
    |_,_,_,_=>none
  |_=>none
def nW (P:Program) (c:Call):Option gK:=
  match c.callee with
  | .builtin .len=>match c.args.toList,c.argTypes.toList with
    |[x],[t]=>match P.underlying t with
      |some (.slice _)=>(cO P x).map gK.len
      |some .string=>(cO P x).map gK.NK
      |some (.map _ _)=>match tf P t,cO P x with
        |some (m,_),some x=>some (.mq (.len m) [x])
        |_,_=>none
      |some (.chan _ _)=>(cO P x).map gK.KI
      |_=>none
    |_,_=>none
  | .builtin .append=>match c.args.toList,c.argTypes.toList with
    |[x,y],[t,u]=>match P.underlying t with
      |some (.slice e)=>match ez P e,jN P e,P.info? e with
        |some (sz+1),some _,some i=>if i.bytes<=32768/\t=u then do pure (.append (sz+1) (<-cO P x) (<-cO P y))else none
        |_,_,_=>none
      |_=>none
    |_,_=>none
  | .builtin .clear=>match c.args.toList,c.argTypes.toList with
    |[x],[t]=>match P.underlying t with
      |some (.slice e)=>match ez P e,jN P e with
        |some (_+1),some z=>(cO P x).map (gK.clear z)
        |_,_=>none
      |_=>none
    |_,_=>none
  | .value (.func f)=>if gj P f then(c.args.toList.mapM (cO P)).map (gK.call f)else none
  | .value (.tmp t)=>(c.args.toList.mapM (cO P)).map (gK.tW (.t t))
  | .builtin .delete=>match c.args.toList,c.argTypes.toList with
    |[x,k],[t,_]=>match tf P t,cO P x,cO P k with
      |some (m,_),some x,some k=>some (.mw (.del m) [x,k])
      |_,_,_=>none
    |_,_=>none
  | .builtin .copy=>match c.args.toList,c.argTypes.toList with
    |[x,y],[t,_]=>match P.underlying t with
      |some (.slice e)=>match ez P e with
        |some (sz+1)=>do pure (.copy (sz+1) (<-cO P x) (<-cO P y))
        |_=>none
      |_=>none
    |_,_=>none
  |_=>none
def rN (P:Program) (o:Op):Option gK:=
  match o with
  | .move x| .assign x=>(cO P x).map gK.dv
  | .pick c a b=>do pure (.pick (<-cO P c) (<-cO P a) (<-cO P b))
  | .alloc e=>(jN P e).map gK.new
  | .box _ x=>(cO P x).map gK.box
  | .load t a=>do pure (.load (<-om P t) (<-ez P t) (<-cO P a))
  | .store t a x=>do pure (.store (<-ez P t) (<-cO P a) (<-cO P x))
  | .nilCheck x=>(cO P x).map gK.zQ
  | .binOp op t x y _=>vU P op t x y
  | .unOp .not _ x=>(cO P x).map gK.not
  | .unOp .neg _ x=>(cO P x).map gK.neg
  | .convert s d x=>match P.underlying s,P.underlying d with
    |some (.int _),some (.int k)=>(cO P x).map (gK.conv k)
    |some .string,some .string=>(cO P x).map gK.F5
    |_,_=>none
  | .slice t x lo hi none=>match P.underlying t with
    |some (.slice e)=>do
      pure (.slice (<-ez P e) (<-cO P x) (<-r6 P lo) (<-r6 P hi))
    |some .string=>do pure (.AW (<-cO P x) (<-r6 P lo) (<-r6 P hi))
    |_=>none
  | .fieldAddr s x i=>match P.underlying s with
    |some (.struct fs)=>match fs[i]? with
      |some f=>match ez P f.type with
        |some (_+1)=>(cO P x).map (gK.fN f.offset)
        |_=>none
      |none=>none
    |_=>none
  | .field s x i=>match P.underlying s with
    |some (.struct fs)=>match fs[i]? with
      |some f=>do pure (.field (<-om P f.type) f.offset (<-ez P f.type) (<-cO P x))
      |none=>none
    |_=>none
  | .indexAddr t x i=>match P.underlying t with
    |some (.slice e)=>match ez P e with
      |some (m+1)=>do pure (.ej (m+1) (<-cO P x) (<-cO P i))
      |_=>none
    |some (.array len e)=>match ez P e with
      |some (m+1)=>do pure (.Nw len (m+1) (<-cO P x) (<-cO P i))
      |_=>none
    |_=>none
  | .index t x i=>match P.underlying t with
    |some .string=>do pure (.Ny (<-cO P x) (<-cO P i))
    |some (.array len e)=>do pure (.eO (<-om P e) len (<-ez P e) (<-cO P x) (<-cO P i))
    |_=>none
  | .extract x i=>(cO P x).map (gK.extract i)
  | .build t ps=>match P.underlying t with
    |some (.struct fs)=>
      match jN P t,tg P ps with
      |some z,some l=>
        if fs.all (fun f=>(P.info? f.type).isSome)then(td P fs l).map (gK.build z)else none
      |_,_=>none
    |some (.array _ e)=>
      match jN P t,tg P ps,ez P e with
      |some z,some l,some n=>some (.build z (l.map fun(i,x)=>(i*n,n,x)))
      |_,_,_=>none
    |_=>none
  | .buildSlice t len ps=>match P.underlying t with
    |some (.slice e)=>match ez P e,jN P e,tg P ps with
      |some (sz+1),some _,some l=>
        if len*(sz+1)<=4096/\l.map (·.1)=List.range len then some (.jS (sz+1) len (l.map (·.2)))else none
      |_,_,_=>none
    |_=>none
  | .makeFunc (.func f) first dn=>
    if first= #[]/\gj P f then(dn.toList.mapM (cO P)).map (gK.NS f)else if dn= #[]/\gj P f then(first.toList.mapM (cO P)).map (gK.NT f)else none
  | .makeSlice t l c=>match P.underlying t with
    |some (.slice e)=>match ez P e,jN P e,P.info? e with
      |some (_+1),some z,some i=>if i.bytes<=32768 then do pure (.j9 z (<-cO P l) (<-cO P c))else none
      |_,_,_=>none
    |_=>none
  | .call c=>nW P c
  | .makeChan t n=>match P.underlying t with
    |some (.chan _ e)=>match P.info? e with
      |some i=>if i.bytes<=32768 then(cO P n).map gK.KR else none
      |none=>none
    |_=>none
  | .send x y=>do pure (.snd (<-cO P x) (<-cO P y))
  | .recv t x false=>match P.underlying t with
    |some (.chan _ e)=>match (P.info? e).bind (·.zero)with
      |some _=>(cO P x).map gK.Rk
      |none=>none
    |_=>none
  | .makeMap t none=>match tf P t with
    |some (m,_)=>some (.mq (.new m) [])
    |none=>none
  | .lookup t x k ok=>match tf P t,cO P x,cO P k with
    |some (m,z),some x,some k=>some (.mq (.look m ok z) [x,k])
    |_,_,_=>none
  | .mapUpdate t x k v| .insert t x k v=>match tf P t,cO P x,cO P k,cO P v with
    |some (m,_),some x,some k,some v=>some (.mw (.set m) [x,k,v])
    |_,_,_,_=>none
  | .makeInterface _ _=>some .bad
  | .panic _=>some .bad
  |_=>none
inductive VP where
  |pure|look|make|write
  deriving DecidableEq,Repr
def gK.cls:gK->VP
  | .new _| .box _| .jS .. | .j9 .. | .mq (.new _) _| .KR _=>.make
  | .load .. | .ej .. | .slice .. | .call .. | .tW .. | .mq .. | .KI _=>.look
  | .store .. | .append .. | .copy .. | .clear .. | .mw .. | .snd .. | .Rk _=>.write
  |_=>.pure
def clash:VP->VP->Bool
  | .pure,_|_,.pure=>false
  | .write,_|_,.write=>true
  |_,_=>false
def jH (ops:Array Oper):Array Nat:=Region.before ops
def rD:gK->Bool:=fun o=>o.cls==.make||o.cls==.write
def gK.ml:gK->Bool
  | .call .. | .tW .. =>true
  |_=>false
def D7 (ops:Array Oper) (o:Oper):Option (Option (Nat×Bool)):=
  match o.guard with
  |none=>some none
  |some (i,b)=>match (ops[i]?).bind (·.dst)with
    |some t=>some (some (t,b))
    |none=>none
def mK (P:Program) (ops:Array Oper) (nt site0:Nat) (draw mk:Bool) (bs:Array Nat) (hidden:List (Nat×Bool)) (j:Nat) (o:Oper):Option bR:=do
  let v <-rN P o.op
  let g <-D7 ops o
  if (o.dst.all fun d=>decide (d<nt))then
    pure {dst:=o.dst,op:=v,guard:=g,site:=site0+j,hid:=if draw then(hidden.filter fun(i,m)=>m&& !(bs.getD j 0).testBit i&&(i !=j||mk&&v.ml)).map fun(i,_)=>site0+i else[]}
  else none
def allM {α:Type} (f:Nat->Oper->Option α):List Oper->Nat->Option (List α)
  |[],_=>some []
  |o::r,j=>do pure ((<-f j o)::(<-allM f r (j+1)))
def gZ:O->List Nat
  | .t n=>[n]
  |_=>[]
def xd:Option O->List Nat
  |some x=>gZ x
  |none=>[]
def gK.gP:gK->List Nat
  | .clear _ x| .dv x| .box x| .load _ _ x| .zQ x| .SV _ _ x| .UX _ x| .not x| .neg x| .conv _ x| .F5 x| .fN _ x| .field _ _ _ x| .extract _ x| .len x| .NK x| .KR x| .KI x| .Rk x=>gZ x
  | .pick c a b=>gZ c++gZ a++gZ b
  | .new _| .bad=>[]
  | .build _ ps=>ps.flatMap fun(_,_,x)=>gZ x
  | .jS _ _ ps=>ps.flatMap gZ
  | .store _ a x| .snd a x=>gZ a++gZ x
  | .bin _ _ x y| .sh _ x y| .MC _ x y| .PZ _ _ x y| .UW _ _ x y| .ej _ x y| .Nw _ _ x y| .Ny x y| .eO _ _ _ x y| .append _ x y| .copy _ x y| .j9 _ x y=>gZ x++gZ y
  | .slice _ x lo hi| .AW x lo hi=>gZ x++xd lo++xd hi
  | .NS _ l| .NT _ l| .call _ l| .mq _ l| .mw _ l=>l.flatMap gZ
  | .tW x l=>gZ x++l.flatMap gZ
def bR.gP (v:bR):List Nat:=v.op.gP++(match v.guard with|some (t,_)=>[t]|none=>[])
def tO (x y:bR):Bool:=
  (match x.dst with
   |some d=> !y.gP.contains d&&y.dst !=some d
   |none=>true)&&
  (match y.dst with
   |some d=> !x.gP.contains d
   |none=>true)
def bR.makes (v:bR):Bool:=rD v.op||v.op.ml&&v.hid.contains v.site
def Gg (x y:bR):Bool:=
  tO x y&& !clash x.op.cls y.op.cls&&(!x.makes||y.hid.contains x.site)&&(!y.makes||x.hid.contains y.site)&&x.site !=y.site
def F9 (ops:Array Oper):Bool:=ops.toList.zipIdx.all fun(o,j)=>o.after.all fun e=> !Region.binds .any e||decide (e.on<j)
def oV (ops:Array Oper) (vl:List bR) (bs:Array Nat):Bool:=
  F9 ops&&vl.zipIdx.all fun(y,j)=>vl.zipIdx.all fun(x,i)=> !(decide (i<j))||(bs.getD j 0).testBit i||Gg x y
def r7 (P:Program) (nt site0:Nat) (ops:Array Oper) (draw mk:Bool):Option (List bR):=
  let bs:=if draw then jH ops else #[]
  let hidden:=if draw then ops.toList.zipIdx.map fun(o,i)=>(i,((rN P o.op).map fun v=>rD v||mk&&v.ml).getD false)else[]
  match allM (mK P ops nt site0 draw mk bs hidden) ops.toList 0 with
  |some vl=>if !draw||oV ops vl bs then some vl else none
  |none=>none
def ly (v:bR):Bool:= !v.op.ml&&v.op.cls !=.write
def yS (x y:bR):Bool:=tO x y&&x.op.cls==.pure||Gg x y&&ly x&&ly y
def qZ (ops:Array Oper) (vl:List bR) (bs:Array Nat) (listed:Array Bool) (i:Nat):Bool:=
  match vl[i]? with
  |some x=>(List.range ops.size).all fun j=>listed.getD j false||j==i||(bs.getD j 0).testBit i||(match vl[j]? with|some y=>yS x y|none=>false)
  |none=>false
def Pj (vl:List bR) (x:bR):Option (Nat×Nat×O):=
  match x.op,x.guard with
  | .append _ (.t t) y,none=>match vl.find? fun v=>v.dst==some t&&v.op.cls==.make with
    |some v=>some (t,v.site,y)
    |none=>none
  |_,_=>none
def Gf (s:Nat) (x y:bR):Bool:=tO x y&&ly y&&y.hid.contains s&&y.hid.contains x.site&&y.site !=s&&y.site !=x.site
def oZ (ops:Array Oper) (vl:List bR) (bs:Array Nat) (listed:Array Bool) (i s:Nat):Bool:=
  match vl[i]? with
  |some x=>(List.range ops.size).all fun j=>listed.getD j false||j==i||(bs.getD j 0).testBit i||(match vl[j]? with|some y=>Gf s x y|none=>false)
  |none=>false
def Q9 (ops:Array Oper) (vl:List bR) (bs:Array Nat) (listed:Array Bool) (i:Nat):Option (Nat×Nat×Nat×O×bR):=
  match vl[i]? with
  |some x=>match Pj vl x with
    |some (t,s,y)=>if oZ ops vl bs listed i s then some (i,t,s,y,x)else none
    |none=>none
  |none=>none
def BI:List VC->Option VC
  |[]=>none
  |[c]=>some c
  |c::r=>(BI r).map (VC.both c)
def xL (ops:Array Oper) (vl:List bR) (bs:Array Nat):Nat->Array Bool->Option VC
  |0,listed=>
    match Region.ready .any ops listed with
    |[]=>some (.eS false [])
    |_::_=>none
  |n+1,listed=>
    match Region.ready .any ops listed with
    |[]=>some (.eS false [])
    |r::rs=>let rdy:=r::rs
      match rdy.find? (qZ ops vl bs listed)with
      |some i=>match vl[i]? with
        |some vo=>(xL ops vl bs n (listed.setIfInBounds i true)).map (VC.one vo)
        |none=>none
      |none=>match rdy.findSome? (Q9 ops vl bs listed)with
        |some (i,t,s,y,vo)=>(xL ops vl bs n (listed.setIfInBounds i true)).map fun c=>VC.loc t s y (.one vo c)
        |none=>match rdy.mapM fun i=>(vl[i]?).bind fun vo=>(xL ops vl bs n (listed.setIfInBounds i true)).map (VC.one vo)with
          |some l=>BI l
          |none=>none
def Pg:Op->Bool
  | .send .. | .recv .. =>true
  |_=>false
def SM (P:Program) (nt site0:Nat) (ops:Array Oper) (draw:Bool) (mode:Nat):Option VC:=
  if draw&&mode==2 then
    match allM (mK P ops nt site0 true false (jH ops) (ops.toList.zipIdx.map fun(o,i)=>(i,((rN P o.op).map rD).getD false))) ops.toList 0 with
    |some vl=>xL ops vl (jH ops) ops.size (Array.replicate ops.size false)
    |none=>none
  else if !draw&&ops.any (fun o=>Pg o.op)then(r7 P nt site0 ops false false).map VC.PV
  else(r7 P nt site0 ops draw (mode==1)).map (VC.eS draw)
def w5 (md:List (Nat×Nat)) (id:Nat):Nat:=
  match md with
  |[]=>0
  |(i,m)::r=>if i=id then m else w5 r id
def kh (P:Program) (md:List (Nat×Nat)) (nt ye:Nat):Code->Option VC
  | .skip=>some .skip
  | .region id ops draw=>SM P nt ((ye*1000+id)*1000) ops draw (w5 md id)
  | .seq a b=>do pure (.seq (<-kh P md nt ye a) (<-kh P md nt ye b))
  | .cond c x y=>do pure (.cond (<-cO P c) (<-kh P md nt ye x) (<-kh P md nt ye y))
  | .block id c=>(kh P md nt ye c).map (VC.block id)
  | .loop c=>(kh P md nt ye c).map VC.loop
  | .exit id=>some (.exit id)
  | .ret=>some .ret
  |_=>none
def Hg (P:Program) (r:ResultVar):Option qd:=
  match r with
  | .tmp t=>some (.tmp t)
  | .cell a t=>do pure (.cell (<-om P t) (<-ez P t) a)
def uE (P:Program) (f:Nat) (md:List (Nat×Nat)):Option yE:=
  match P.funcs[f]? with
  |some fn=>match fn.body with
    |some c=>do
      let b <-kh P md fn.ntmps f c
      let r <-fn.results.toList.mapM (Hg P)
      if fn.params.size+fn.nfree<=fn.ntmps then pure {ntmps:=fn.ntmps,zj:=fn.params.size+fn.nfree,body:=b,res:=r}else none
    |none=>none
  |none=>none
def nv (P:Program) (f:Nat):Option yE:=uE P f []
structure Row where
 w:Bool
 sz:Nat
 rows:List (List AV)
abbrev Rows:=Id->Option Row
structure ay where
 get:Rows
 next:Nat
abbrev Env:=Nat->AV
def upd (env:Env):Option Nat->AV->Env
 |some d,v=>fun t=>if t=d then v else env t
 |none,_=>env
inductive Ex where
 |normal
 |exit (id:Nat)
 |ret
 deriving DecidableEq
def dd (env:Env):O->AV
 | .t n=>env n
 | .k c=>c.av
 | .ka cs=>.agg (cs.map K.av)
 | .f n=>.fn n []
def bL (g:Rows) (id:Id) (r:Row):Rows:=fun i=>if i=id then some r else g i
def bY (g:Rows) (id:Id):Rows:=fun i=>if i=id then none else g i
def fD:List Nat->Nat->Rows->Rows
 |[],_,g=>g
 |h::t,n,g=>fun id=>if (h::t).contains id.site=true/\id.br=n then none else g id
def ro (g:Rows):Rows:=fun id=>(g id).map fun r=>{r with w:=false}
def part (agg:Bool) (n:Nat) (cs:List AV):Option AV:=
 if agg then(if n<=cs.length then some (.agg (cs.take n))else none)else cs.head?
def rowAt (g:Rows) (id:Id) (i:Nat):Option (List AV):=(g id).bind (·.rows[i]?)
def ld (g:Rows) (agg:Bool) (n:Nat):AV->Option AV
 | .ptr id i off=>(rowAt g id i).bind fun cs=>part agg n (cs.drop off)
 | .dp cs=>part agg n cs
 |_=>none
def dx:BinOp->IntKind->Int->Int->Option AV
 | .add,k,a,b=>some (.int k (k.wrap (a+b)))
 | .sub,k,a,b=>some (.int k (k.wrap (a-b)))
 | .mul,k,a,b=>some (.int k (k.wrap (a*b)))
 | .quo,k,a,b=>if b=0 then none else some (.int k (k.wrap (a.tdiv b)))
 | .rem,k,a,b=>if b=0 then none else some (.int k (a.tmod b))
 | .lss,_,a,b=>some (.bool (decide (a<b)))
 | .leq,_,a,b=>some (.bool (decide (a<=b)))
 | .gtr,_,a,b=>some (.bool (decide (b<a)))
 | .geq,_,a,b=>some (.bool (decide (b<=a)))
 | .and,k,a,b=>some (.int k (k.wrap (BitVec.ofInt k.bits a&&& BitVec.ofInt k.bits b).toNat))
 | .or,k,a,b=>some (.int k (k.wrap (BitVec.ofInt k.bits a|||BitVec.ofInt k.bits b).toNat))
 | .xor,k,a,b=>some (.int k (k.wrap (BitVec.ofInt k.bits a ^^^ BitVec.ofInt k.bits b).toNat))
 |_,_,_,_=>none
def dO (op:BinOp):AV->AV->Option AV
 | .int k a,.int k' b=>if k=k' then dx op k a b else none
 |_,_=>none
def gz (left:Bool):AV->AV->Option AV
 | .int k a,.int _ b=>if b<0 then none else some (.int k (if left then k.wrap (a*2 ^ min b.toNat k.bits)else a.fdiv (2 ^ min b.toNat k.bits)))
 |_,_=>none
def dY:BinOp->ByteArray->ByteArray->Option AV
 | .add,a,b=>if a.size+b.size<=9223372036854775807 then some (.str (a++b))else none
 | .lss,a,b=>some (.bool (Op.bytesLess a.toList b.toList))
 | .leq,a,b=>some (.bool (Op.bytesLess a.toList b.toList||(a.toList==b.toList)))
 | .gtr,a,b=>some (.bool !(Op.bytesLess a.toList b.toList||(a.toList==b.toList)))
 | .geq,a,b=>some (.bool !(Op.bytesLess a.toList b.toList))
 |_,_,_=>none
def cW (op:BinOp):AV->AV->Option AV
 | .str a,.str b=>dY op a b
 |_,_=>none
def fC:TS->AV->AV->Option Bool
 | .tI,.int k a,.int k' b=>if k=k' then some (decide (a=b))else none
 | .tB,.bool a,.bool b=>some (a==b)
 | .tS,.str a,.str b=>some (decide (a=b))
 |_,_,_=>none
def eY:List TS->List AV->List AV->Option Bool
 |[],[],[]=>some true
 |t::ts,a::r,b::s=>match fC t a b,eY ts r s with
  |some x,some y=>some (x&&y)
  |_,_=>none
 |_,_,_=>none
def dj (neg b:Bool):Bool:=if neg then !b else b
def cU:AV->Option Bool
 | .cj=>some true
 | .own _ _ _=>some false
 | .sl (_::_)=>some false
 |_=>none
def cR:AV->Option Bool
 | .jC=>some true
 | .fn _ _=>some false
 |_=>none
def LQ:AV->Option Bool
 | .il=>some true
 | .ptr .. | .dp _=>some false
 |_=>none
def dS (NC:Bool) (x:AV):Option Bool:=if NC then cR x else cU x
def dG (len:Nat):Option AV->Option Nat
 |none=>some len
 |some (.int _ n)=>if 0<=n/\n<=len then some n.toNat else none
 |_=>none
def dH (h:Nat):Option AV->Option Nat
 |none=>some 0
 |some (.int _ n)=>if 0<=n/\n<=h then some n.toNat else none
 |_=>none
def bH (g:Rows) (sz:Nat) (x:AV) (lo hi:Option AV):Option AV:=
 match x with
 | .cj=>(dG 0 hi).bind fun h=>(dH h lo).map fun _=>.cj
 | .sl rows=>(dG rows.length hi).bind fun h=>(dH h lo).bind fun l=>if ∀cs∈rows,cs.length=sz then some (.sl ((rows.drop l).take (h-l)))else none
 | .own id off len=>(g id).bind fun r=>(dG len hi).bind fun h=>(dH h lo).bind fun l=>if r.sz=sz then some (.own id (off+l) (h-l))else none
 |_=>none
def aZ (x:AV) (lo hi:Option AV):Option AV:=
 match x with
 | .str s=>(dG s.size hi).bind fun h=>(dH h lo).map fun l=>.str (s.extract l h)
 |_=>none
def FP (off:Nat):AV->Option AV
 | .ptr id i o=>some (.ptr id i (o+off))
 | .dp cs=>some (.dp (cs.drop off))
 |_=>none
def bG (g:Rows) (sz:Nat):AV->AV->Option AV
 | .sl rows,.int _ n=>if 0<=n then(rows[n.toNat]?).bind fun cs=>if cs.length=sz then some (.dp cs)else none else none
 | .own id off len,.int _ n=>if 0<=n/\n<len then(g id).bind fun r=>if r.sz=sz then some (.ptr id (off+n.toNat) 0)else none else none
 |_,_=>none
def cJ (len sz:Nat):AV->AV->Option AV
 | .ptr id r off,.int _ n=>if 0<=n/\n<len then some (.ptr id r (off+n.toNat*sz))else none
 | .dp cs,.int _ n=>if 0<=n/\n<len then some (.dp (cs.drop (n.toNat*sz)))else none
 |_,_=>none
def cL:AV->AV->Option AV
 | .str s,.int _ n=>if 0<=n then(s[n.toNat]?).map fun b=>.int .u8 b.toNat else none
 |_,_=>none
def cK (agg:Bool) (len n:Nat):AV->AV->Option AV
 | .agg cs,.int _ i=>if 0<=i/\i<len then part agg n (cs.drop (i.toNat*n))else none
 |_,_=>none
def dQ:AV->Option Nat
 | .cj=>some 0
 | .sl rows=>some rows.length
 | .own _ _ n=>some n
 |_=>none
def dU:AV->Option AV
 | .bool b=>some (.bool !b)
 |_=>none
def dR:AV->Option AV
 | .int k n=>some (.int k (k.wrap (0-n)))
 |_=>none
def cI (k:IntKind):AV->Option AV
 | .int _ n=>some (.int k (k.wrap n))
 |_=>none
def bJ:AV->Option AV
 | .str s=>some (.str s)
 |_=>none
def cV:AV->AV->AV->Option AV
 | .bool c,a,b=>some (if c then a else b)
 |_,_,_=>none
def dP:AV->Option AV
 | .ptr id i o=>some (.ptr id i o)
 | .dp cs=>some (.dp cs)
 |_=>none
def bF (agg:Bool) (off n:Nat):AV->Option AV
 | .agg cs=>if off+n<=cs.length then part agg n (cs.drop off)else none
 |_=>none
def aL (i:Nat):AV->Option AV
 | .iA vs=>vs[i]?
 |_=>none
def cP:AV->Option AV
 | .str s=>some (.int .i64 s.size)
 |_=>none
def rowOf (sz:Nat) (v:AV):Option (List AV):=if v.cells.length=sz/\v.cells.all AV.cell then some v.cells else none
def cG (v:AV):Option (List AV):=if v.cells.all AV.cell then some v.cells else none
def rowsOf (sz:Nat):List AV->Option (List (List AV))
 |[]=>some []
 |v::r=>(rowOf sz v).bind fun c=>(rowsOf sz r).map fun cs=>c::cs
def cz:List AV->List (Nat×Nat×AV)->Option (List AV)
 |cs,[]=>some cs
 |cs,(off,n,v)::r=>if v.cells.length=n/\off+n<=cs.length/\v.cells.all AV.cell then cz (cs.take off++v.cells++cs.drop (off+n)) r else none
def dy:Nat:=16777216
def gy (zero:List K):AV->AV->Option (Nat×Row)
 | .int _ l,.int _ c=>if 0<=l/\l<=c/\c<=dy then some (l.toNat,⟨true,zero.length,List.replicate l.toNat (zero.map K.av)⟩)else none
 |_,_=>none
def mT:Nat:=1000000000
def MK.ks (m:MK):Nat:=m.ts.length
def MK.mz (m:MK):Nat:=mT+m.ks
def AV.isAgg:AV->Bool
 | .agg _=>true
 |_=>false
def gr (m:MK) (key:List AV):List (List AV)->Nat->Option (Option Nat)
 |[],_=>some none
 |r::l,i=>match eY m.ts key (r.take m.ks)with
  |some true=>some (some i)
  |some false=>gr m key l (i+1)
  |none=>none
def dJ (g:Rows) (m:MK):AV->Option (Id×Row)
 | .map id m'=>if m'=m then(g id).map fun r=>(id,r)else none
 |_=>none
def gm (m:MK) (k:AV) (rows:List (List AV)):Option (Option Nat):=if k.isAgg=m.ka/\k.cells.length=m.ks/\k.cells.all AV.cell then gr m k.cells rows 0 else none
def dM (m:MK) (z:K) (rows:List (List AV)):Option Nat->Option AV
 |some i=>(rows[i]?).bind fun cs=>cs[m.ks]?
 |none=>some z.av
def bw (q:MQ) (vs:List AV) (g:Rows) (id:Id):Option (AV×Option Row):=
 match q,vs with
 | .new m,[]=>some (.map id m,some ⟨true,m.mz,[]⟩)
 | .look m ok z,[x,k]=>(dJ g m x).bind fun p=>(gm m k p.2.rows).bind fun fi=>(dM m z p.2.rows fi).map fun v=>(if ok then .iA [v,.bool fi.isSome]else v,none)
 | .len m,[x]=>(dJ g m x).map fun p=>(.int .i64 p.2.rows.length,none)
 |_,_=>none
def qY:Nat:=2000000000
def cQ:AV->Option Nat
 | .int _ n=>if 0<=n/\n<=1048576 then some n.toNat else none
 |_=>none
def cN (g:Rows):AV->Option AV
 | .tj id=>(g id).map fun r=>.int .i64 r.rows.length
 |_=>none
def dW (g:Rows):AV->AV->Option Rows
 | .tj id,v=>(g id).bind fun r=>if r.w/\qY+r.rows.length<r.sz/\v.cell then some (bL g id {r with rows:=r.rows++[[v]]})else none
 |_,_=>none
def dV (g:Rows):AV->Option (AV×Rows)
 | .tj id=>(g id).bind fun r=>match r.rows with
  |[v]::rest=>if r.w then some (v,bL g id {r with rows:=rest})else none
  |_=>none
 |_=>none
def dD (rows:List (List AV)) (e:List AV):Option Nat->List (List AV)
 |some i=>rows.set i e
 |none=>rows++[e]
def dI (rows:List (List AV)):Option Nat->List (List AV)
 |some i=>rows.eraseIdx i
 |none=>rows
def bz (q:MW) (vs:List AV) (g:Rows):Option Rows:=
 match q,vs with
 | .set m,[x,k,v]=>(dJ g m x).bind fun p=>(gm m k p.2.rows).bind fun fi=>if p.2.w/\v.cell/\v.isAgg=false then some (bL g p.1 {p.2 with rows:=dD p.2.rows (k.cells++[v]) fi})else none
 | .del m,[x,k]=>(dJ g m x).bind fun p=>(gm m k p.2.rows).bind fun fi=>if p.2.w then some (bL g p.1 {p.2 with rows:=dI p.2.rows fi})else none
 |_,_=>none
def eH (o:gK) (ρ:O->AV) (g:Rows) (id:Id):Option (AV×Option Row):=
 match o with
 | .dv x=>some (ρ x,none)
 | .pick c a b=>(cV (ρ c) (ρ a) (ρ b)).map (·,none)
 | .new zero=>some (.ptr id 0 0,some ⟨true,zero.length,[zero.map K.av]⟩)
 | .box x=>(cG (ρ x)).map fun cs=>(.ptr id 0 0,some ⟨true,cs.length,[cs]⟩)
 | .build zero parts=>(cz (zero.map K.av) (parts.map fun(o,n,x)=>(o,n,ρ x))).map fun cs=>(.agg cs,none)
 | .jS sz len parts=>(rowsOf sz (parts.map ρ)).map fun rs=>(.own id 0 len,some ⟨true,sz,rs⟩)
 | .load agg n a=>(ld g agg n (ρ a)).map (·,none)
 | .zQ x=>(dP (ρ x)).map (·,none)
 | .bin op _ x y=>(dO op (ρ x) (ρ y)).map (·,none)
 | .sh left x y=>(gz left (ρ x) (ρ y)).map (·,none)
 | .MC op x y=>(cW op (ρ x) (ρ y)).map (·,none)
 | .PZ neg t x y=>(fC t (ρ x) (ρ y)).map fun b=>(.bool (dj neg b),none)
 | .UW neg ts x y=>match ρ x,ρ y with
  | .agg xs,.agg ys=>(eY ts xs ys).map fun b=>(.bool (dj neg b),none)
  |_,_=>none
 | .SV neg NC x=>(dS NC (ρ x)).map fun b=>(.bool (dj neg b),none)
 | .UX neg x=>(LQ (ρ x)).map fun b=>(.bool (dj neg b),none)
 | .not x=>(dU (ρ x)).map (·,none)
 | .neg x=>(dR (ρ x)).map (·,none)
 | .conv k x=>(cI k (ρ x)).map (·,none)
 | .F5 x=>(bJ (ρ x)).map (·,none)
 | .slice sz x lo hi=>(bH g sz (ρ x) (lo.map ρ) (hi.map ρ)).map (·,none)
 | .AW x lo hi=>(aZ (ρ x) (lo.map ρ) (hi.map ρ)).map (·,none)
 | .fN off x=>(FP off (ρ x)).map (·,none)
 | .field agg off n x=>(bF agg off n (ρ x)).map (·,none)
 | .ej sz x i=>(bG g sz (ρ x) (ρ i)).map (·,none)
 | .Nw len sz x i=>(cJ len sz (ρ x) (ρ i)).map (·,none)
 | .Ny x i=>(cL (ρ x) (ρ i)).map (·,none)
 | .eO agg len n x i=>(cK agg len n (ρ x) (ρ i)).map (·,none)
 | .extract i x=>(aL i (ρ x)).map (·,none)
 | .len x=>(dQ (ρ x)).map fun(n:Nat)=>(AV.int .i64 (n:Int),none)
 | .NK x=>(cP (ρ x)).map (·,none)
 | .NS f dn=>some (.fn f (dn.map ρ),none)
 | .NT f first=>some (.vh f (first.map ρ),none)
 | .j9 zero l c=>(gy zero (ρ l) (ρ c)).map fun(n,r)=>(.own id 0 n,some r)
 | .mq q xs=>bw q (xs.map ρ) g id
 | .KR x=>(cQ (ρ x)).map fun n=>(.tj id,some ⟨true,qY+n,[]⟩)
 | .KI x=>(cN g (ρ x)).map (·,none)
 |_=>none
def bq (g:Rows):AV->Option (List (List AV))
 | .cj=>some []
 | .sl rows=>some rows
 | .own id off len=>(g id).bind fun r=>if off+len<=r.rows.length then some ((r.rows.drop off).take len)else none
 |_=>none
def cF (cs:List AV) (off:Nat) (xs:List AV):List AV:=cs.take off++xs++cs.drop (off+xs.length)
def bI (g:Rows) (n:Nat) (v:AV):AV->Option Rows
 | .ptr id i off=>(g id).bind fun r=>(r.rows[i]?).bind fun cs=>
  if r.w/\v.cells.length=n/\v.cells.all AV.cell/\off+n<=cs.length then some (bL g id {r with rows:=r.rows.set i (cF cs off v.cells)})else none
 |_=>none
def aW (g:Rows) (id:Id) (sz:Nat) (x:AV) (ys:List (List AV)):Option (AV×Rows):=
 match x with
 | .cj=>match ys with
  |[]=>some (.cj,g)
  |y::r=>if (y::r).length<=dy/\(y::r).all (fun c=>c.length==sz&&c.all AV.cell)then some (.own id 0 (y::r).length,bL g id ⟨true,sz,y::r⟩)else none
 | .own i 0 len=>(g i).bind fun r=>
  if r.w/\r.sz=sz/\len=r.rows.length/\len+ys.length<=dy/\ys.all (fun c=>c.length==sz&&c.all AV.cell)then some (.own id 0 (len+ys.length),bL (bY g i) id ⟨true,sz,r.rows++ys⟩)else none
 |_=>none
def GW (g:Rows) (sz:Nat) (x:AV) (ys:List (List AV)):Option (AV×Rows):=
 match x with
 | .own i off len=>(g i).bind fun r=>
  if r.w/\r.sz=sz/\off+len<=r.rows.length/\ys.all (fun c=>c.length==sz&&c.all AV.cell)then
   some (.int .i64 (min ys.length len:Nat),bL g i {r with rows:=r.rows.take off++ys.take (min ys.length len)++r.rows.drop (off+min ys.length len)})else none
 |_=>none
def bE (g:Rows) (zero:List K) (x:AV):Option Rows:=
 match x with
 | .cj=>some g
 | .own i off len=>(g i).bind fun r=>
  if r.w/\r.sz=zero.length/\off+len<=r.rows.length then
   some (bL g i {r with rows:=r.rows.take off++List.replicate len (zero.map K.av)++r.rows.drop (off+len)})else none
 |_=>none
def fE (o:gK) (ρ:O->AV) (g:Rows) (id:Id):Option (AV×Rows):=
 match o with
 | .store n a x=>(bI g n (ρ x) (ρ a)).map fun g'=>(.undef,g')
 | .append sz x y=>(bq g (ρ y)).bind fun ys=>aW g id sz (ρ x) ys
 | .copy sz x y=>(bq g (ρ y)).bind fun ys=>GW g sz (ρ x) ys
 | .clear zero x=>(bE g zero (ρ x)).map fun g'=>(.undef,g')
 | .mw q xs=>(bz q (xs.map ρ) g).map fun g'=>(.undef,g')
 |_=>none
def vV:AV->List AV->Option (Nat×List AV)
 | .fn f dn,l=>some (f,l++dn)
 | .vh f first,l=>some (f,first++l)
 |_,_=>none
abbrev fX:=Nat->List AV->ay->(AV->ay->Prop)->Prop
mutual
def fz (g:Rows):Nat->AV->Option AV
 |0,_=>none
 |n+1,a=>match a with
  | .own id off len=>match g id with
   |some r=>if r.w then(if off+len<=r.rows.length then(ee g n ((r.rows.drop off).take len)).map AV.sl else none)else none
   |none=>none
  | .ptr id i off=>match g id with
   |some r=>if r.w then(match r.rows[i]? with
    |some cs=>(de g n (cs.drop off)).map AV.dp
    |none=>none)else none
   |none=>none
  | .agg cs=>(de g n cs).map AV.agg
  | .iA vs=>(de g n vs).map AV.iA
  | .fn f dn=>if dn.all AV.cell then(de g n dn).map (AV.fn f)else none
  | .map _ _| .vh _ _| .tj _=>none
  |v=>some v
 termination_by n _=>(n,0)
def de (g:Rows):Nat->List AV->Option (List AV)
 |n,[]=>some []
 |n,a::r=>match fz g n a with
  |some b=>(de g n r).map (b::·)
  |none=>none
 termination_by n l=>(n,l.length+1)
def ee (g:Rows):Nat->List (List AV)->Option (List (List AV))
 |n,[]=>some []
 |n,c::r=>match de g n c with
  |some b=>(ee g n r).map (b::·)
  |none=>none
 termination_by n l=>(n,(l.map (fun c=>c.length+2)).sum+1)
 decreasing_by all_goals simp_wf;try omega
end
mutual
def gq (g:Rows):Nat->AV->Option AV
 |0,_=>none
 |n+1,a=>match a with
  | .own id off len=>match g id with
   |some r=>if r.w then(if off+len<=r.rows.length then(gD g n ((r.rows.drop off).take len)).map AV.sl else none)else none
   |none=>none
  | .ptr id i off=>match g id with
   |some r=>if r.w then(match r.rows[i]? with
    |some cs=>(er g n (cs.drop off)).map AV.dp
    |none=>none)else none
   |none=>none
  | .agg cs=>(er g n cs).map AV.agg
  | .iA vs=>(er g n vs).map AV.iA
  | .int k m=>some (.int k m)
  | .bool b=>some (.bool b)
  | .str s=>some (.str s)
  | .cj=>some .cj
  | .il=>some .il
  | .jC=>some .jC
  | .jJ=>some .jJ
  |_=>none
 termination_by n _=>(n,0)
def er (g:Rows):Nat->List AV->Option (List AV)
 |n,[]=>some []
 |n,a::r=>match gq g n a with
  |some b=>(er g n r).map (b::·)
  |none=>none
 termination_by n l=>(n,l.length+1)
def gD (g:Rows):Nat->List (List AV)->Option (List (List AV))
 |n,[]=>some []
 |n,c::r=>match er g n c with
  |some b=>(gD g n r).map (b::·)
  |none=>none
 termination_by n l=>(n,(l.map (fun c=>c.length+2)).sum+1)
 decreasing_by all_goals simp_wf;try omega
end
def dK (g:Rows):Rows:=fun id=>(g id).map fun r=>{r with w:=true}
def PC (X:fX) (f:Nat) (args:List AV) (σ:ay) (K:AV->Prop):Prop:=
 X f args ⟨ro σ.get,σ.next⟩ fun r σ'=>∃r',fz σ'.get 6 r=some r'/\K r'
def PCv (X:fX) (f:Nat) (args:List AV) (σ:ay) (K:AV->Prop):Prop:=
 ∃args',de (dK σ.get) 6 args=some args'/\X f args' ⟨fun _=>none,σ.next⟩ fun r σ'=>∃r',gq σ'.get 6 r=some r'/\K r'
def fK (X:fX) (f:Nat) (args:List AV) (σ:ay) (K:AV->Prop):Prop:=PC X f args σ K∨PCv X f args σ K
def aI (g:Option (Nat×Bool)) (env:Env):Bool:=
 match g with
 |none=>true
 |some (t,b)=>match env t with
  | .bool c=>c==b
  |_=>false
def AV.plain:AV->Bool
 | .int .. | .bool _| .str _| .cj| .il| .jC| .jJ=>true
 |_=>false
def CM (X:fX) (f:Nat) (args:List AV) (σ:ay) (sz:Nat) (rows:List (List AV)):Prop:=
 (∀c∈rows,∀a∈c,a.plain=true)/\∃args',de (dK σ.get) 6 args=some args'/\X f args' ⟨fun _=>none,σ.next⟩ fun r σ'=>∃id,r=.own id 0 rows.length/\σ'.get id=some ⟨true,sz,rows⟩
def cE (X:fX) (draw:Bool) (hid:List Nat) (site:Nat) (f:Nat) (args:List AV) (σ:ay) (next:AV->ay->Prop):Prop:=
 (∃r,fK X f args ⟨fD hid σ.next σ.get,σ.next+1⟩ (fun r'=>r'=r)/\next r σ)∨
 (draw=false/\X f args ⟨σ.get,σ.next+1⟩ next)∨
 (hid.contains site=true/\∃sz rows,CM X f args ⟨fD hid σ.next σ.get,σ.next+1⟩ sz rows/\next (.own ⟨site,σ.next⟩ 0 rows.length) ⟨bL σ.get ⟨site,σ.next⟩ ⟨true,sz,rows⟩,σ.next⟩)
def fw (X:fX) (draw:Bool) (o:bR) (env:Env) (σ:ay) (next:AV->ay->Prop):Prop:=
 match o.op with
 | .call f args=>cE X draw o.hid o.site f (args.map (dd env)) σ next
 | .tW x args=>match dd env x with
  | .fn f dn=>cE X draw o.hid o.site f (args.map (dd env)++dn) σ next
  | .vh f first=>cE X draw o.hid o.site f (first++args.map (dd env)) σ next
  |_=>False
 | .store .. | .append .. | .copy .. | .clear .. | .mw .. =>match fE o.op (dd env) σ.get ⟨o.site,σ.next⟩with
  |some (v,g)=>next v ⟨g,σ.next⟩
  |none=>False
 |_=>match eH o.op (dd env) (fD o.hid σ.next σ.get) ⟨o.site,σ.next⟩with
  |some (v,some r)=>next v ⟨bL σ.get ⟨o.site,σ.next⟩ r,σ.next⟩
  |some (v,none)=>next v σ
  |none=>False
def wpOps (X:fX) (draw:Bool):List bR->(Env->ay->Prop)->Env->ay->Prop
 |[],K,env,σ=>K env ⟨σ.get,σ.next+1⟩
 |o::r,K,env,σ=>
  if aI o.guard env then fw X draw o env σ fun v σ'=>wpOps X draw r K (upd env o.dst v) σ'
  else wpOps X draw r K (upd env o.dst .undef) σ
def cq:List bR->(Env->ay->Prop)->Env->ay->Prop
 |[],K,env,σ=>K env ⟨σ.get,σ.next+1⟩
 |o::r,K,env,σ=>o.guard=none/\match o.op with
  | .snd x y=>match dW σ.get (dd env x) (dd env y)with
   |some g=>cq r K (upd env o.dst .undef) ⟨g,σ.next⟩
   |none=>False
  | .Rk x=>match dV σ.get (dd env x)with
   |some (v,g)=>cq r K (upd env o.dst v) ⟨g,σ.next⟩
   |none=>False
  |op=>match eH op (dd env) σ.get ⟨o.site,σ.next⟩with
   |some (v,none)=>cq r K (upd env o.dst v) σ
   |_=>False
def dq (next:Env->ay->Prop) (Q:Ex->Env->ay->Prop):Ex->Env->ay->Prop
 | .normal=>next
 |e=>Q e
def bm (id:Nat) (Q:Ex->Env->ay->Prop):Ex->Env->ay->Prop
 | .exit lk=>if lk=id then Q .normal else Q (.exit lk)
 |e=>Q e
def GG (W:(Ex->Env->ay->Prop)->Env->ay->Prop) (Q:Ex->Env->ay->Prop):Nat->Env->ay->Prop
 |0=>fun _ _=>False
 |n+1=>W (dq (GG W Q n) Q)
def NL (t s:Nat) (y:O) (env:Env) (n:Nat):Prop:=(∃len,env t=.own ⟨s,n⟩ 0 len)/\∀id o l,dd env y=.own id o l->id.br≠n
def ek (X:fX):VC->(Ex->Env->ay->Prop)->Env->ay->Prop
 | .skip,Q=>Q .normal
 | .eS draw ops,Q=>wpOps X draw ops (Q .normal)
 | .seq a b,Q=>ek X a (dq (ek X b Q) Q)
 | .cond c x y,Q=>fun env σ=>match dd env c with
  | .bool b=>if b then ek X x Q env σ else ek X y Q env σ
  |_=>False
 | .block id c,Q=>ek X c (bm id Q)
 | .loop c,Q=>fun env σ=>∃n,GG (ek X c) Q n env σ
 | .exit id,Q=>Q (.exit id)
 | .ret,Q=>Q .ret
 | .one o c,Q=>fun env σ=>if aI o.guard env then fw X false o env σ fun v σ'=>ek X c Q (upd env o.dst v) σ' else ek X c Q (upd env o.dst .undef) σ
 | .both a b,Q=>fun env σ=>ek X a Q env σ/\ek X b Q env σ
 | .loc t s y c,Q=>fun env σ=>NL t s y env σ.next/\ek X c Q env σ
 | .PV ops,Q=>cq ops (Q .normal)
def iK (env:Env) (g:Rows):qd->Option AV
 | .tmp t=>some (env t)
 | .cell agg n t=>ld g agg n (env t)
def fR (env:Env) (g:Rows):List qd->Option (List AV)
 |[]=>some []
 |r::l=>(iK env g r).bind fun v=>(fR env g l).map (v::·)
def fx:List AV->AV
 |[v]=>v
 |l=>.iA l
def cm (args:List AV):Env:=fun t=>args.getD t .undef
def mo (res:List qd) (K:AV->ay->Prop):Ex->Env->ay->Prop
 | .exit _,_,_=>False
 |_,env,σ=>∃vs,fR env σ.get res=some vs/\K (fx vs) σ
inductive ke (P:Program) (w:World) (D:Nat->Prop):AV->Value->Prop
 |int (k n):ke P w D (.int k n) (.int k n)
 |bool (b):ke P w D (.bool b) (.bool b)
 |str (s):ke P w D (.str s) (.string s)
 |cj:ke P w D .cj (.slice none 0 0)
 |il:ke P w D .il (.pointer none)
 |jC:ke P w D .jC .nilFunc
 |DI (a c):c<=maxLen->ke P w D (.sl []) (.slice a 0 c)
 |sl (rows b o n c sz) (vs:Nat->Nat->Value):rows.length=n->n<=c->c<=maxLen->D b->(∀cs∈rows,cs.length=sz)->(∀cs∈rows,∀a∈cs,a.cell=true)->
   (∀i j,i<n->j<sz->w.cell? ⟨b,o+(i*sz+j),none⟩=some (vs i j))->
   (∀i j cs a,rows[i]? =some cs->cs[j]? =some a->ke P w D a (vs i j))->ke P w D (.sl rows) (.slice (some ⟨b,o,none⟩) n c)
 |dp (cs b o) (vs:Nat->Value):D b->(∀a∈cs,a.cell=true)->(∀j,j<cs.length->w.cell? ⟨b,o+j,none⟩=some (vs j))->
   (∀j a,cs[j]? =some a->ke P w D a (vs j))->ke P w D (.dp cs) (.pointer (some ⟨b,o,none⟩))
 |agg (cs) (vs:Array Value) (f:Nat->Value):vs.size=cs.length->(∀a∈cs,a.cell=true)->(∀j,j<cs.length->vs[j]? =some (f j))->(∀j a,cs[j]? =some a->ke P w D a (f j))->ke P w D (.agg cs) (.agg vs)
 |fn (f dn) (vs:Array Value) (g:Nat->Value):gj P f=true->vs.size=dn.length->(∀j,j<dn.length->vs[j]? =some (g j))->(∀j a,dn[j]? =some a->ke P w D a (g j))->ke P w D (.fn f dn) (.func (.func f) #[] vs)
 |jJ:ke P w D .jJ (.map none)
inductive BK where
 |map (m:MK)
 |chan (cap:Nat)
structure s4 where
 b:Nat
 sz:Nat
 C:Nat
 k:Option BK
abbrev Names:=Id->Option s4
inductive dm (P:Program) (w:World) (D:Nat->Prop) (ι:Names):AV->Value->Prop
 |fa (a v):ke P w D a v->dm P w D ι a v
 |own (id off len o cap B):ι id=some B->B.k=none->len<=cap->(cap=0∨o=off*B.sz)->(off+cap)*B.sz<=B.C->cap<=maxLen->dm P w D ι (.own id off len) (.slice (some ⟨B.b,o,none⟩) len cap)
 |ptr (id i off B):ι id=some B->B.k=none->dm P w D ι (.ptr id i off) (.pointer (some ⟨B.b,i*B.sz+off,none⟩))
 |agg (cs) (vs:Array Value) (f:Nat->Value):vs.size=cs.length->(∀a∈cs,a.cell=true)->(∀j,j<cs.length->vs[j]? =some (f j))->(∀j a,cs[j]? =some a->dm P w D ι a (f j))->dm P w D ι (.agg cs) (.agg vs)
 |iA (cs) (vs:Array Value) (f:Nat->Value):vs.size=cs.length->(∀j,j<cs.length->vs[j]? =some (f j))->(∀j a,cs[j]? =some a->dm P w D ι a (f j))->dm P w D ι (.iA cs) (.tuple vs)
 |fn (f dn) (vs:Array Value) (g:Nat->Value):gj P f=true->vs.size=dn.length->(∀j,j<dn.length->vs[j]? =some (g j))->(∀j a,dn[j]? =some a->dm P w D ι a (g j))->dm P w D ι (.fn f dn) (.func (.func f) #[] vs)
 |tj (id c B):ι id=some B->B.k=some (.chan c)->dm P w D ι (.tj id) (.chan (some B.b))
 |map (id m B):ι id=some B->B.k=some (.map m)->dm P w D ι (.map id m) (.map (some B.b))
 |vh (f dn) (vs:Array Value) (g:Nat->Value):gj P f=true->vs.size=dn.length->(∀j,j<dn.length->vs[j]? =some (g j))->(∀j a,dn[j]? =some a->dm P w D ι a (g j))->dm P w D ι (.vh f dn) (.func (.func f) vs #[])
variable {P:Program} {w w':World} {D D':Nat->Prop} {ι ι':Names}
theorem ke.frame (hD:∀b,D b->w'.heap[b]? =w.heap[b]?) (hs:∀b,D b->D' b) {a:AV} {v:Value} (h:ke P w D a v):ke P w' D' a v:=by
 induction h with
 |int k n=>exact .int k n
 |bool b=>exact .bool b
 |str s=>exact .str s
 |cj=>exact .cj
 |il=>exact .il
 |jC=>exact .jC
 |jJ=>exact .jJ
 |DI a c h=>exact .DI a c h
 |sl rows b o n c sz vs h1 h2 h3 h4 h5 h5' h6 _ ih=>exact .sl rows b o n c sz vs h1 h2 h3 (hs b h4) h5 h5' (fun i j hi hj=>(World.cell?_of_block (hD b h4)).trans (h6 i j hi hj)) ih
 |dp cs b o vs h1 S9 h2 _ ih=>exact .dp cs b o vs (hs b h1) S9 (fun j hj=>(World.cell?_of_block (hD b h1)).trans (h2 j hj)) ih
 |agg cs vs f h1 h2 h3 _ ih=>exact .agg cs vs f h1 h2 h3 ih
 |fn f dn vs g h1 h2 h3 _ ih=>exact .fn f dn vs g h1 h2 h3 ih
theorem dm.frame (hD:∀b,D b->w'.heap[b]? =w.heap[b]?) (hs:∀b,D b->D' b) (hι:∀id B,ι id=some B->ι' id=some B) {a:AV} {v:Value} (h:dm P w D ι a v):dm P w' D' ι' a v:=by
 induction h with
 |fa a v h=>exact .fa a v (h.frame hD hs)
 |map id m B h1 h2=>exact .map id m B (hι _ _ h1) h2
 |tj id c B h1 h2=>exact .tj id c B (hι _ _ h1) h2
 |own id off len o cap B h1 h2 h3 h4 h5 h6=>exact .own id off len o cap B (hι _ _ h1) h2 h3 h4 h5 h6
 |ptr id i off B h1 h2=>exact .ptr id i off B (hι _ _ h1) h2
 |agg cs vs f h1 h2 h3 _ ih=>exact .agg cs vs f h1 h2 h3 ih
 |iA cs vs f h1 h2 _ ih=>exact .iA cs vs f h1 h2 ih
 |fn f dn vs g h1 h2 h3 _ ih=>exact .fn f dn vs g h1 h2 h3 ih
 |vh f dn vs g h1 h2 h3 _ ih=>exact .vh f dn vs g h1 h2 h3 ih
theorem dm.undef:dm P w D ι .undef Go.undef:=.iA [] #[] (fun _=>Go.undef) rfl (fun j hj=>by simp at hj) (fun j a h=>by simp at h)
theorem xp (c:K):dm P w D ι c.av c.val:=by
 cases c with
 |int k n=>exact .fa _ _ (.int k n)
 |bool b=>exact .fa _ _ (.bool b)
 |str l=>exact .fa _ _ (.str _)
 |cj=>exact .fa _ _ .cj
 |il=>exact .fa _ _ .il
 |jC=>exact .fa _ _ .jC
 |jJ=>exact .fa _ _ .jJ
theorem K.nr (c:K):c.av.cell=true:=by cases c<;>rfl
theorem Ap {v:Value} {c:K} (h:HY v=some c):v=c.val:=by
 unfold HY at h
 split at h<;>simp at h<;>subst h<;>rfl
theorem dm.BN {a:AV} {v:Value} (h:dm P w D ι a v) (hc:a.cell=true):v.cells= #[v]/\(∀vs,v≠.agg vs)/\(∀vs,v≠.tuple vs):=by
 cases h with
 |fa a v h=>cases h<;>simp_all [AV.cell,Value.cells]
 |own=>simp[Value.cells]
 |map=>simp[Value.cells]
 |tj=>simp[Value.cells]
 |ptr=>simp[Value.cells]
 |agg=>simp[AV.cell]at hc
 |iA=>simp[AV.cell]at hc
 |fn=>simp[Value.cells]
 |vh=>simp[Value.cells]
theorem dm.cells {a:AV} {v:Value} (h:dm P w D ι a v) (ha:a.cells.all AV.cell=true):v.cells.size=a.cells.length/\∃f:Nat->Value,(∀j,j<a.cells.length->v.cells[j]? =some (f j))/\∀j x,a.cells[j]? =some x->dm P w D ι x (f j):=by
 have one:∀(a:AV) (v:Value),a.cell=true->a.cells=[a]->dm P w D ι a v->v.cells.size=a.cells.length/\∃f:Nat->Value,(∀j,j<a.cells.length->v.cells[j]? =some (f j))/\∀j x,a.cells[j]? =some x->dm P w D ι x (f j):=by
  intro a v hc dz h
  obtain⟨h1,_,_⟩:=h.BN hc
  rw[h1,dz]
  refine⟨rfl,fun _=>v,fun j hj=>?_,fun j x hx=>?_⟩
  ·have:j=0:=by simp at hj;omega
   subst this;rfl
  ·cases j with
   |zero=>simp at hx;subst hx;exact h
   |succ j=>simp at hx
 cases h with
 |fa a v h=>
  cases h with
  |agg cs vs f h1 h2 h3 h4=>exact⟨h1,f,h3,fun j x hx=>.fa _ _ (h4 j x hx)⟩
  |_=>exact one _ _ rfl rfl (.fa _ _ (by constructor<;>assumption))
 |own id off len o cap B h1 h2 h3 h4 h5 h6=>exact one _ _ rfl rfl (.own id off len o cap B h1 h2 h3 h4 h5 h6)
 |ptr id i off B h1 h2=>exact one _ _ rfl rfl (.ptr id i off B h1 h2)
 |map id m B h1 h2=>exact one _ _ rfl rfl (.map id m B h1 h2)
 |tj id c B h1 h2=>exact one _ _ rfl rfl (.tj id c B h1 h2)
 |agg cs vs f h1 h2 h3 h4=>exact⟨h1,f,h3,h4⟩
 |iA cs vs f h1 h2 h3=>simp[AV.cells,AV.cell]at ha
 |fn f dn vs g h1 h2 h3 h4=>exact one _ _ rfl rfl (.fn f dn vs g h1 h2 h3 h4)
 |vh f dn vs g h1 h2 h3 h4=>exact one _ _ rfl rfl (.vh f dn vs g h1 h2 h3 h4)
structure kK (P:Program) (w:World) (D:Nat->Prop) (ι:Names) (B:s4) (r:Row):Prop where
 sz:B.sz=r.sz
 vT:∃cells T,w.heap[B.b]? =some (.cells cells T (0,0))/\cells.size=B.C
 fits:r.rows.length*r.sz<=B.C
 len:∀cs∈r.rows,cs.length=r.sz
 flat:∀cs∈r.rows,∀a∈cs,a.cell=true
 at_:∀i j cs a,r.rows[i]? =some cs->cs[j]? =some a->∃v,w.cell? ⟨B.b,i*r.sz+j,none⟩=some v/\dm P w D ι a v
def G6 (es:Array MapEntry) (clock:Nat):Prop:=(∀x∈es.toList,x.born<clock)/\(es.toList.map (·.born)).Nodup
def OJ (P:Program) (w:World) (D:Nat->Prop) (ι:Names) (B:s4) (m:MK) (r:Row):Prop:=
 ∃(es:Array MapEntry) (clock:Nat),w.heap[B.b]? =some (.map es clock)/\es.size=r.rows.length/\((∀cs∈r.rows,cs.length=m.ks+1)/\G6 es clock)/\
  ∀(i:Nat) (cs:List AV),r.rows[i]? =some cs->∃(e:MapEntry) (kv vv:AV),es[i]? =some e/\part m.ka m.ks cs=some kv/\cs[m.ks]? =some vv/\dm P w D ι kv e.key/\dm P w D ι vv e.val
def Jf (P:Program) (w:World) (D:Nat->Prop) (ι:Names) (B:s4) (c:Nat) (r:Row):Prop:=
 ∃(buf:Array Value) (s q:Nat),w.heap[B.b]? =some (.chan c buf false s q false)/\buf.size=r.rows.length/\
  ∀(i:Nat) (cs:List AV),r.rows[i]? =some cs->∃(a:AV) (u:Value),cs=[a]/\buf[i]? =some u/\dm P w D ι a u
structure im (P:Program) (w:World) (D:Nat->Prop) (ι:Names) (B:s4) (r:Row):Prop where
 sz:B.sz=r.sz
 flat:∀cs∈r.rows,∀a∈cs,a.cell=true
 row:B.k=none->kK P w D ι B r
 map:∀m,B.k=some (.map m)->r.sz=m.mz/\OJ P w D ι B m r
 chan:∀c,B.k=some (.chan c)->r.sz=qY+c/\Jf P w D ι B c r
theorem kK.obj {B:s4} {r:Row} (R:kK P w D ι B r) (h:B.k=none):im P w D ι B r:=⟨R.sz,R.flat,fun _=>R,fun m hm=>(by rw[h]at hm;cases hm),fun m hm=>by rw[h]at hm;cases hm⟩
theorem im.flag {B:s4} {r:Row} (R:im P w D ι B r) (b:Bool):im P w D ι B {r with w:=b}:=⟨R.sz,R.flat,fun h=>⟨R.sz,(R.row h).vT,(R.row h).fits,(R.row h).len,R.flat,(R.row h).at_⟩,R.map,R.chan⟩
theorem im.cells {B:s4} {r:Row} (R:im P w D ι B r) (h:r.sz<mT):B.k=none:=by
 cases hk:B.k with
 |none=>rfl
 |some m=>
  cases m with
  |map m=>
   have h1:=(R.map m hk).1
   unfold MK.mz at h1
   omega
  |chan c=>
   have h1:=(R.chan c hk).1
   unfold qY at h1
   unfold mT at h
   omega
theorem im.NV {B:s4} {r:Row} (R:im P w D ι B r) {c:Array Value} {T:TypeId} {z:Nat×Nat} (h:w.heap[B.b]? =some (.cells c T z)):B.k=none:=by
 cases hk:B.k with
 |none=>rfl
 |some m=>
  cases m with
  |map m=>obtain⟨_,es,c,h3,_⟩:=R.map m hk;rw[h]at h3;cases h3
  |chan c=>obtain⟨_,buf,s,q,h3,_⟩:=R.chan c hk;rw[h]at h3;cases h3
theorem im.lt {B:s4} {r:Row} (R:im P w D ι B r):B.b<w.heap.size:=by
 cases h:B.k with
 |none=>
  obtain⟨c,T,h3,_⟩:=(R.row h).vT
  exact(Array.getElem?_eq_some_iff.1 h3).1
 |some m=>
  cases m with
  |map m=>obtain⟨_,es,c,h3,_⟩:=R.map m h;exact(Array.getElem?_eq_some_iff.1 h3).1
  |chan c=>obtain⟨_,buf,s,q,h3,_⟩:=R.chan c h;exact(Array.getElem?_eq_some_iff.1 h3).1
structure gw (P:Program) (hs:Nat) (D:Nat->Prop) (ι:Names) (g:Rows) (w:World):Prop where
 lo:hs<=w.heap.size
 dead:∀b,D b->b<w.heap.size
 row:∀id r,g id=some r->∃B,ι id=some B/\im P w D ι B r/\(r.w=true->hs<=B.b)/\(r.w=true->¬D B.b)
 inj:∀id lk r r' B B',g id=some r->g lk=some r'->r.w=true->ι id=some B->ι lk=some B'->B.b=B'.b->id=lk
def Used (ι:Names) (n:Nat) (U:Nat->Prop):Prop:=∀id,ι id≠none->id.br<n∨(id.br=n/\U id.site)
structure Step (hs:Nat) (D:Nat->Prop) (ι:Names) (w:World) (D':Nat->Prop) (ι':Names) (w':World):Prop where
 below:Below hs w w'
 wO:∀b,D b->w'.heap[b]? =w.heap[b]?
 dead:∀b,D b->D' b
 names:∀id B,ι id=some B->ι' id=some B
 new:∀b,D' b->D b∨hs<=b
theorem Step.refl (hs:Nat) (D:Nat->Prop) (ι:Names) (w:World):Step hs D ι w D ι w:=⟨Below.refl _ _,fun _ _=>rfl,fun _ h=>h,fun _ _ h=>h,fun _ h=>.inl h⟩
theorem Step.trans {hs:Nat} {D D' D'':Nat->Prop} {ι ι' UT:Names} {w w' Ml:World} (h:Step hs D ι w D' ι' w') (k:Step hs D' ι' w' D'' UT Ml):Step hs D ι w D'' UT Ml:=
 ⟨h.below.trans k.below,fun b hb=>(k.wO b (h.dead b hb)).trans (h.wO b hb),fun b hb=>k.dead b (h.dead b hb),fun id B hB=>k.names id B (h.names id B hB),fun b hb=>by
  rcases k.new b hb with hb|hb
  ·exact h.new b hb
  ·exact .inr hb⟩
theorem Step.rep {hs:Nat} {D D':Nat->Prop} {ι ι':Names} {w w':World} (h:Step hs D ι w D' ι' w') {a:AV} {v:Value} (hr:dm P w D ι a v):dm P w' D' ι' a v:=hr.frame h.wO h.dead h.names
theorem dB {k n} {v:Value} (h:dm P w D ι (.int k n) v):v=.int k n:=by
 cases h with
 |fa _ _ h=>cases h;rfl
theorem fu {b} {v:Value} (h:dm P w D ι (.bool b) v):v=.bool b:=by
 cases h with
 |fa _ _ h=>cases h;rfl
theorem fV {s} {v:Value} (h:dm P w D ι (.str s) v):v=.string s:=by
 cases h with
 |fa _ _ h=>cases h;rfl
theorem iS {v:Value} (h:dm P w D ι .cj v):v=.slice none 0 0:=by
 cases h with
 |fa _ _ h=>cases h;rfl
theorem xq {v:Value} (h:dm P w D ι .jC v):v=.nilFunc:=by
 cases h with
 |fa _ _ h=>cases h;rfl
theorem iE {cs} {v:Value} (h:dm P w D ι (.agg cs) v):∃(vs:Array Value) (f:Nat->Value),v=.agg vs/\vs.size=cs.length/\(∀a∈cs,a.cell=true)/\(∀j,j<cs.length->vs[j]? =some (f j))/\∀j a,cs[j]? =some a->dm P w D ι a (f j):=by
 cases h with
 |fa _ _ h=>
  cases h with
  |agg cs vs f h1 h2 h3 h4=>exact⟨vs,f,rfl,h1,h2,h3,fun j a h=>.fa _ _ (h4 j a h)⟩
 |agg cs vs f h1 h2 h3 h4=>exact⟨vs,f,rfl,h1,h2,h3,h4⟩
theorem vn {cs} {v:Value} (h:dm P w D ι (.iA cs) v):∃(vs:Array Value) (f:Nat->Value),v=.tuple vs/\vs.size=cs.length/\(∀j,j<cs.length->vs[j]? =some (f j))/\∀j a,cs[j]? =some a->dm P w D ι a (f j):=by
 cases h with
 |fa _ _ h=>cases h
 |iA cs vs f h1 h2 h3=>exact⟨vs,f,rfl,h1,h2,h3⟩
theorem xo {f dn} {v:Value} (h:dm P w D ι (.fn f dn) v):∃(vs:Array Value) (g:Nat->Value),v=.func (.func f) #[] vs/\gj P f=true/\vs.size=dn.length/\(∀j,j<dn.length->vs[j]? =some (g j))/\∀j a,dn[j]? =some a->dm P w D ι a (g j):=by
 cases h with
 |fa _ _ h=>
  cases h with
  |fn f dn vs g h1 h2 h3 h4=>exact⟨vs,g,rfl,h1,h2,h3,fun j a h=>.fa _ _ (h4 j a h)⟩
 |fn f dn vs g h1 h2 h3 h4=>exact⟨vs,g,rfl,h1,h2,h3,h4⟩
theorem Lh {v:Value} (h:dm P w D ι .il v):v=.pointer none:=by
 cases h with
 |fa _ _ h=>cases h;rfl
theorem C9 {v:Value} (h:dm P w D ι .jJ v):v=.map none:=by
 cases h with
 |fa _ _ h=>cases h;rfl
theorem Oe {f dn} {v:Value} (h:dm P w D ι (.vh f dn) v):∃(vs:Array Value) (g:Nat->Value),v=.func (.func f) vs #[]/\gj P f=true/\vs.size=dn.length/\(∀j,j<dn.length->vs[j]? =some (g j))/\∀j a,dn[j]? =some a->dm P w D ι a (g j):=by
 cases h with
 |fa _ _ h=>cases h
 |vh f dn vs g h1 h2 h3 h4=>exact⟨vs,g,rfl,h1,h2,h3,h4⟩
theorem iq {id off len} {v:Value} (h:dm P w D ι (.own id off len) v):∃o cap B,v=.slice (some ⟨B.b,o,none⟩) len cap/\ι id=some B/\len<=cap/\(cap=0∨o=off*B.sz)/\(off+cap)*B.sz<=B.C/\cap<=maxLen/\B.k=none:=by
 cases h with
 |fa _ _ h=>cases h
 |own id off len o cap B h1 h2 h3 h4 h5 h6=>exact⟨o,cap,B,rfl,h1,h3,h4,h5,h6,h2⟩
theorem iY {id i off} {v:Value} (h:dm P w D ι (.ptr id i off) v):∃B,v=.pointer (some ⟨B.b,i*B.sz+off,none⟩)/\ι id=some B/\B.k=none:=by
 cases h with
 |fa _ _ h=>cases h
 |ptr id i off B h1 h2=>exact⟨B,rfl,h1,h2⟩
theorem Oc {id} {v:Value} (h:dm P w D ι (.tj id) v):∃B c,v=.chan (some B.b)/\ι id=some B/\B.k=some (.chan c):=by
 cases h with
 |fa _ _ h=>cases h
 |tj id c B h1 h2=>exact⟨B,c,rfl,h1,h2⟩
theorem GL {id m} {v:Value} (h:dm P w D ι (.map id m) v):∃B,v=.map (some B.b)/\ι id=some B/\B.k=some (.map m):=by
 cases h with
 |fa _ _ h=>cases h
 |map id m B h1 h2=>exact⟨B,rfl,h1,h2⟩
theorem lD {cs} {v:Value} (h:dm P w D ι (.dp cs) v):∃b o,∃vs:Nat->Value,v=.pointer (some ⟨b,o,none⟩)/\D b/\(∀a∈cs,a.cell=true)/\(∀j,j<cs.length->w.cell? ⟨b,o+j,none⟩=some (vs j))/\∀j a,cs[j]? =some a->ke P w D a (vs j):=by
 cases h with
 |fa _ _ h=>
  cases h with
  |dp cs b o vs h1 h2 h3 h4=>exact⟨b,o,vs,rfl,h1,h2,h3,h4⟩
theorem xr {rows} {v:Value} (h:dm P w D ι (.sl rows) v):∃A c,v=.slice A rows.length c/\rows.length<=c/\c<=maxLen/\
  (rows=[]∨∃b o sz,∃vs:Nat->Nat->Value,A=some ⟨b,o,none⟩/\D b/\(∀cs∈rows,cs.length=sz)/\(∀cs∈rows,∀a∈cs,a.cell=true)/\
   (∀i j,i<rows.length->j<sz->w.cell? ⟨b,o+(i*sz+j),none⟩=some (vs i j))/\∀i j cs a,rows[i]? =some cs->cs[j]? =some a->ke P w D a (vs i j)):=by
 cases h with
 |fa _ _ h=>
  cases h with
  |DI a c h=>exact⟨a,c,rfl,Nat.zero_le _,h,.inl rfl⟩
  |sl rows b o n c sz vs h1 h2 h3 h4 h5 h5' h6 h7=>subst h1;exact⟨_,c,rfl,h2,h3,.inr ⟨b,o,sz,vs,rfl,h4,h5,h5',h6,h7⟩⟩
inductive e8:AV->Prop
 |int (k n):e8 (.int k n)
 |bool (b):e8 (.bool b)
 |str (s):e8 (.str s)
 |cj:e8 .cj
 |il:e8 .il
 |jC:e8 .jC
 |sl (rows):rows.length<=maxLen->(∀cs∈rows,∀a∈cs,e8 a)->e8 (.sl rows)
 |own (id off len):e8 (.own id off len)
 |ptr (id i off):e8 (.ptr id i off)
 |dp (cs):(∀a∈cs,e8 a)->e8 (.dp cs)
 |agg (cs):(∀a∈cs,e8 a)->e8 (.agg cs)
 |iA (cs):(∀a∈cs,e8 a)->e8 (.iA cs)
 |fn (f dn):(∀a∈dn,e8 a)->e8 (.fn f dn)
 |map (id m):e8 (.map id m)
 |tj (id):e8 (.tj id)
 |jJ:e8 .jJ
 |vh (f dn):(∀a∈dn,e8 a)->e8 (.vh f dn)
theorem e8.len {rows:List (List AV)} (h:e8 (.sl rows)):rows.length<=9223372036854775807:=by
 cases h with
 |sl _ h _=>unfold maxLen at h;omega
theorem e8.PF {cs:List AV} (h:e8 (.agg cs)) {a:AV} (ha:a∈cs):e8 a:=by
 cases h with
 |agg _ h=>exact h a ha
theorem e8.CB {cs:List AV} (h:e8 (.dp cs)) {a:AV} (ha:a∈cs):e8 a:=by
 cases h with
 |dp _ h=>exact h a ha
theorem pg {l:List AV} {p:AV->Prop} (h:∀(j:Nat) (a:AV),l[j]? =some a->p a):∀a∈l,p a:=fun a ha=>by
 obtain⟨j,hj,rfl⟩:=List.getElem_of_mem ha
 exact h j _ (List.getElem?_eq_getElem hj)
theorem ke.KH {a:AV} {v:Value} (h:ke P w D a v):e8 a:=by
 induction h with
 |int k n=>exact .int k n
 |bool b=>exact .bool b
 |str s=>exact .str s
 |cj=>exact .cj
 |il=>exact .il
 |jC=>exact .jC
 |jJ=>exact .jJ
 |DI a c h=>exact .sl [] (Nat.zero_le _) (fun cs h=>by cases h)
 |sl rows b o n c sz vs h1 h2 h3 h4 h5 h5' h6 _ ih=>
  exact .sl rows (by omega) fun cs dz a ha=>by
   obtain⟨i,hi,rfl⟩:=List.getElem_of_mem dz
   obtain⟨j,hj,rfl⟩:=List.getElem_of_mem ha
   exact ih i j _ _ (List.getElem?_eq_getElem hi) (List.getElem?_eq_getElem hj)
 |dp cs b o vs h1 S9 h2 _ ih=>exact .dp cs (pg ih)
 |agg cs vs f h1 h2 h3 _ ih=>exact .agg cs (pg ih)
 |fn f dn vs g h1 h2 h3 _ ih=>exact .fn f dn (pg ih)
theorem dm.KH {a:AV} {v:Value} (h:dm P w D ι a v):e8 a:=by
 induction h with
 |fa a v h=>exact h.KH
 |own id off len o cap B=>exact .own _ _ _
 |ptr id i off B=>exact .ptr _ _ _
 |map id m B=>exact .map _ _
 |tj id c B=>exact .tj _
 |agg cs vs f h1 h2 h3 _ ih=>exact .agg cs (pg ih)
 |iA cs vs f h1 h2 _ ih=>exact .iA cs (pg ih)
 |fn f dn vs g h1 h2 h3 _ ih=>exact .fn f dn (pg ih)
 |vh f dn vs g h1 h2 h3 _ ih=>exact .vh f dn (pg ih)
end Go.Proofs.YtgoljkjaameagaaGreat.V

namespace Go.Proofs.YtgoljkjaameagaaGreat.V
open Go.RowKit
variable {P:Program} {w w':World} {D D':Nat->Prop} {ι ι':Names}
def cX (P:Program) (w:World) (D:Nat->Prop) (ι:Names) (env:Env) (a:Act):Prop:=∀t,dm P w D ι (env t) (a.tmps.getD t undef)
theorem sG {vs:List Value} {cs:List K} (h:vs.mapM HY=some cs):cs.length=vs.length/\∀(j:Nat) (c:K),cs[j]? =some c->vs[j]? =some c.val:=by
 induction vs generalizing cs with
 |nil=>simp at h;subst h;simp
 |cons v r ih=>
  simp only[List.mapM_cons,Option.bind_eq_bind,Option.bind_eq_some_iff]at h
  obtain⟨c,hc,qw,dz,h⟩:=h
  simp at h;subst h
  obtain⟨h1,h2⟩:=ih dz
  refine⟨by simp[h1],fun j d hd=>?_⟩
  cases j with
  |zero=>simp at hd ⊢;subst hd;exact Ap hc
  |succ j=>simp at hd ⊢;exact h2 j d hd
theorem XP {vs:List Value} {cs:List K} (h:vs.mapM HY=some cs):dm P w D ι (.agg (cs.map K.av)) (.agg vs.toArray):=by
 obtain⟨h1,h2⟩:=sG h
 refine .agg _ _ (fun j=>vs.getD j undef) (by simp[h1]) (fun a ha=>?_) (fun j hj=>?_) (fun j a ha=>?_)
 ·obtain⟨c,_,rfl⟩:=List.mem_map.1 ha;exact c.nr
 ·simp at hj;simp[List.getElem?_eq_getElem (show j<vs.length by omega)]
 ·simp only[List.getElem?_map,Option.map_eq_some_iff]at ha
  obtain⟨c,hc,rfl⟩:=ha
  rw[List.getD_eq_getElem?_getD,h2 j c hc];exact xp c
theorem dw {env:Env} {a:Act} {x:Operand} {y:O} (E:cX P w D ι env a) (h:cO P x=some y):dm P w D ι (dd env y) (a.eval x):=by
 unfold cO at h
 split at h
 ·simp at h;subst h;exact E _
 ·simp only[Option.map_eq_some_iff]at h
  obtain⟨cs,dz,rfl⟩:=h
  have:=XP (P:=P) (w:=w) (D:=D) (ι:=ι) dz
  simpa[Act.eval,dd]using this
 ·simp only[Option.map_eq_some_iff]at h
  obtain⟨c,hc,rfl⟩:=h
  simp only[Act.eval,dd]
  rw[Ap hc];exact xp c
 ·simp at h
 ·split at h
  ·rename_i hc
   simp at h;subst h
   simp only[Act.eval,dd]
   exact .fn _ _ _ (fun _=>undef) hc rfl (fun j hj=>by simp at hj) (fun j a h=>by simp at h)
  ·simp at h
def oL (P:Program) (a:Act) (o:Oper) (w:World) (D:Nat->Prop) (ι:Names) (v:AV):Prop:=∃u,(execOp a.eval o).run P w=.ok (.value u) w/\dm P w D ι v u
section
variable {g:Rows} {hs:Nat} {env:Env} {a:Act} {o:Oper} {id:Id} {v:AV}
theorem Pu {x:Operand} {y:O} (E:cX P w D ι env a) (ho:o.op=.move x∨o.op=.assign x) (hx:cO P x=some y):oL P a o w D ι (dd env y):=by
 refine⟨a.eval x,?_,dw E hx⟩
 rcases ho with h|h<;>simp[execOp,h,go_sem]
theorem RV {c x y:Operand} {c' x' y':O} (E:cX P w D ι env a) (ho:o.op=.pick c x y) (hc:cO P c=some c') (hx:cO P x=some x') (hy:cO P y=some y') (hv:cV (dd env c') (dd env x') (dd env y')=some v):oL P a o w D ι v:=by
 unfold cV at hv
 split at hv
 ·rename_i b hb
  simp at hv;subst hv
  have h1:=fu (hb▸dw E hc)
  refine⟨if b then a.eval x else a.eval y,by simp only[execOp,ho,h1,asBool];rfl,?_⟩
  cases b
  ·exact dw E hy
  ·exact dw E hx
 ·simp at hv
theorem UJ {op:BinOp} {x y:Operand} {x' y':O} {t yt:TypeId} (E:cX P w D ι env a) (ho:o.op=.binOp op t x y yt) (he:op≠.eql) (hn:op≠.neq) (hx:cO P x=some x') (hy:cO P y=some y') (hv:dO op (dd env x') (dd env y')=some v):oL P a o w D ι v:=by
 unfold dO at hv
 split at hv
 ·rename_i k n k' m hb tq
  split at hv
  ·rename_i hk
   subst hk
   have h1:=dB (hb▸dw E hx)
   have h2:=dB (tq▸dw E hy)
   have key:∀u,(binOp op t (.int k n) (.int k m)).run P w=.ok u w->(execOp a.eval o).run P w=.ok (.value u) w:=fun u hu=>by
    have e0:eqGuard op t x y (.int k n) (.int k m)=pure ():=by unfold eqGuard;cases op<;>rfl
    simp only[execOp,ho,h1,h2,e0]
    simp[go_sem,hu]
   cases op<;>simp only[dx]at hv<;>(try(simp at hv;done))<;>(try split at hv)<;>(try(simp at hv;done))<;>simp only[Option.some.injEq]at hv<;>subst hv<;>
    (refine⟨_,key _ (by simp only[binOp,ne_eq,not_true_eq_false,if_false,Op.intArith,Op.intDiv,Op.intBits,Op.intCmp, *];rfl),?_⟩)<;>
    first
     |exact .fa _ _ (.int _ _)
     |exact .fa _ _ (.bool _)
  ·simp at hv
 ·simp at hv
theorem RF {op:BinOp} {x y:Operand} {x' y':O} {t yt:TypeId} (E:cX P w D ι env a) (ho:o.op=.binOp op t x y yt) (he:op≠.eql) (hn:op≠.neq) (hx:cO P x=some x') (hy:cO P y=some y') (hv:cW op (dd env x') (dd env y')=some v):oL P a o w D ι v:=by
 unfold cW at hv
 split at hv
 ·rename_i n m hb tq
  have h1:=fV (hb▸dw E hx)
  have h2:=fV (tq▸dw E hy)
  cases op<;>simp only[dY]at hv<;>(try(simp at hv;done))
  case add=>
   split at hv
   ·rename_i hl
    simp only[Option.some.injEq]at hv;subst hv
    exact⟨_,by simp only[execOp,ho,h1,h2];simp[eqGuard,binOp,go_sem];exact hl,.fa _ _ (.str _)⟩
   ·simp at hv
  all_goals
   simp only[Option.some.injEq]at hv;subst hv
   exact⟨_,by simp only[execOp,ho,h1,h2];simp[eqGuard,binOp,Op.stringOp,go_sem],.fa _ _ (.bool _)⟩
 ·simp at hv
theorem GU (n m:ByteArray):(n.toList==m.toList)=decide (n=m):=by
 rw[ByteArray.toList_eq,ByteArray.toList_eq]
 by_cases h:n=m
 ·subst h;simp
 ·have:n.data.toList≠m.data.toList:=fun he=>h (ByteArray.ext (Array.ext' he))
  rw[decide_eq_false h];exact beq_eq_false_iff_ne.2 this
theorem pV {t:TypeId} (h:fG P t=some .tB):P.underlying t=some .bool:=by unfold fG at h;split at h<;>simp_all
theorem pW {t:TypeId} (h:fG P t=some .tI):∃k,P.underlying t=some (.int k):=by unfold fG at h;split at h<;>simp_all
theorem pY {t:TypeId} (h:fG P t=some .tS):P.underlying t=some .string:=by unfold fG at h;split at h<;>simp_all
theorem sN {d:Nat} {t:TypeId} {s:TS} {x y:AV} {u u':Value} {b:Bool} (hx:dm P w D ι x u) (hy:dm P w D ι y u') (hv:fC s x y=some b) (ht:fG P t=some s):(Op.equalIn (d+1) t u u').run P w=.ok b w:=by
 unfold fC at hv
 split at hv
 ·rename_i k n k' m
  split at hv
  ·rename_i hk
   subst hk
   simp at hv;subst hv
   obtain⟨q,hq⟩:=pW ht
   rw[dB hx,dB hy,run_equalIn_int _ _ _ _ _ _ _ hq];rfl
  ·simp at hv
 ·simp at hv;subst hv
  rw[fu hx,fu hy,run_equalIn_bool' _ _ _ _ _ (pV ht)]
 ·simp at hv;subst hv
  rw[fV hx,fV hy,run_equalIn_string _ _ _ _ _ (pY ht),GU]
 ·simp at hv
def fb (P:Program) (w:World) (D:Nat->Prop) (ι:Names) (xs:List AV) (vs:Array Value):Prop:=vs.size=xs.length/\∀(j:Nat) (a:AV),xs[j]? =some a->∃u,vs[j]? =some u/\dm P w D ι a u
theorem fb.part {xs:List AV} {vs:Array Value} (h:fb P w D ι xs vs) (off n:Nat) (hn:off+n<=xs.length):fb P w D ι ((xs.drop off).take n) (vs.extract off (off+n)):=by
 refine⟨by simp[h.1];omega,fun j a ha=>?_⟩
 rw[List.getElem?_take]at ha
 split at ha
 ·rename_i hj
  rw[List.getElem?_drop]at ha
  obtain⟨u,h1,h2⟩:=h.2 _ _ ha
  refine⟨u,?_,h2⟩
  rw[Array.getElem?_extract]
  rw[if_pos (by rw[h.1];omega),h1]
 ·simp at ha
theorem sb:∀{ts:List TS} {xs ys:List AV} {b:Bool},eY ts xs ys=some b->xs.length=ts.length/\ys.length=ts.length
 |[],[],[],_,_=>⟨rfl,rfl⟩
 |t::ts,x::xs,y::ys,b,h=>by
  unfold eY at h
  split at h
  ·rename_i c d h1 h2
   have:=sb h2
   simp[this.1,this.2]
  ·simp at h
 |[],[],_::_,_,h=>by simp[eY]at h
 |[],_::_,_,_,h=>by simp[eY]at h
 |_::_,[],_,_,h=>by simp[eY]at h
 |_::_,_::_,[],_,h=>by simp[eY]at h
theorem Gc:∀{ts us:List TS} {xs ys:List AV} {b:Bool},eY (ts++us) xs ys=some b->∃c d,eY ts (xs.take ts.length) (ys.take ts.length)=some c/\eY us (xs.drop ts.length) (ys.drop ts.length)=some d/\b=(c&&d)
 |[],us,xs,ys,b,h=>⟨true,b,by simp[eY],by simpa using h,by simp⟩
 |t::ts,us,x::xs,y::ys,b,h=>by
  simp only[List.cons_append]at h
  unfold eY at h
  split at h
  ·rename_i c d h1 h2
   obtain⟨c',d',h3,h4,rfl⟩:=Gc h2
   simp at h;subst h
   exact⟨c&&c',d',by simp[eY,h1,h3],by simpa using h4,by simp[Bool.and_assoc]⟩
  ·simp at h
 |t::ts,us,[],ys,b,h=>by simp[eY]at h
 |t::ts,us,x::xs,[],b,h=>by simp[eY]at h
theorem mW {t:TypeId} {vs:Array Value} {off:Nat} {u:Value} (ha:om P t=some false) (hu:vs[off]? =some u):(Go.part t vs off).run P w=.ok u w:=by
 unfold om at ha
 have hi:(isAgg t).run P w=.ok false w:=by
  split at ha<;>simp at ha
  rename_i d h1 h2 hd
  simp only[isAgg,Sem.run_bind,run_underlying hd,Result.andThen_ok]
  cases d<;>simp_all
 simp[Go.part,hi,hu]
theorem tK {t:TypeId} {b:Bool} (ha:om P t=some b):(isAgg t).run P w=.ok b w:=by
 unfold om at ha
 split at ha<;>simp at ha<;>subst ha<;>rename_i hd<;>simp only[isAgg,Sem.run_bind,run_underlying hd,Result.andThen_ok]<;>(try simp)
theorem run_sizeOf {t:TypeId} {n:Nat} (h:ez P t=some n):(sizeOf t).run P w=.ok n w:=by
 unfold ez at h
 simp only[Option.map_eq_some_iff]at h
 obtain⟨i,hi,rfl⟩:=h
 simp[sizeOf,typeInfo,hi]
theorem pU {t:TypeId} {vs:Array Value} {off n:Nat} (ha:om P t=some true) (hn:ez P t=some n):(Go.part t vs off).run P w=.ok (.agg (vs.extract off (off+n))) w:=by
 simp[Go.part,tK ha,run_sizeOf hn]
theorem J0 (d off:Nat):eP P (d+1) off []=some []:=rfl
theorem yQ (d off:Nat) (f:Field) (r:List Field):eP P (d+1) off (f::r)=(if f.offset=off/\f.name≠ "_" then
   match fG P f.type with
   |some t=>if om P f.type=some false then(eP P (d+1) (off+1) r).map (t::·)else none
   |none=>match P.underlying f.type with
    |some (.struct fs)=>if !P.stoodInHeld f.type then match eP P d 0 fs.toList with
     |some ts=>if ez P f.type=some ts.length/\ts≠[]then(eP P (d+1) (off+ts.length) r).map (ts++·)else none
     |none=>none else none
    |_=>none
  else none):=rfl
theorem sM:∀(d:Nat) (fs:List Field) (off:Nat) (ts:List TS),eP P d off fs=some ts->∀(N:Nat) (_:d<=N) (xs ys:List AV) (vs us:Array Value) (b:Bool),fb P w D ι xs vs->fb P w D ι ys us->
  eY ts ((xs.drop off).take ts.length) ((ys.drop off).take ts.length)=some b->(Op.eqFields (N+1) vs us fs).run P w=.ok b w:=by
 intro d
 induction d with
 |zero=>
  intro fs off ts hf N _ xs ys vs us b _ _ he
  cases fs with
  |nil=>simp[eP]at hf;subst hf;simp[eY]at he;subst he;simp[Op.eqFields]
  |cons f r=>simp[eP]at hf
 |succ d ihd=>
  intro fs
  induction fs with
  |nil=>
   intro off ts hf N _ xs ys vs us b _ _ he
   rw[J0]at hf;simp at hf;subst hf;simp[eY]at he;subst he;simp[Op.eqFields]
  |cons f r ih=>
   intro off ts hf N hN xs ys vs us b hx hy he
   rw[yQ]at hf
   split at hf
   ·rename_i hcond
    obtain⟨ho,ij⟩:=hcond
    split at hf
    ·rename_i s hs
     split at hf
     ·rename_i uY
      simp only[Option.map_eq_some_iff]at hf
      obtain⟨Mj,hr,rfl⟩:=hf
      obtain⟨l1,l2⟩:=sb he
      simp only[List.length_cons,List.length_take,List.length_drop]at l1 l2
      have Bo:off<xs.length:=by omega
      have hyo:off<ys.length:=by omega
      rw[List.drop_eq_getElem_cons Bo,List.drop_eq_getElem_cons hyo,List.length_cons,List.take_succ_cons,List.take_succ_cons]at he
      unfold eY at he
      split at he
      ·rename_i c d' h1 h2
       simp at he;subst he
       obtain⟨u,hu,ru⟩:=hx.2 off _ (List.getElem?_eq_getElem Bo)
       obtain⟨u',Gu,ru'⟩:=hy.2 off _ (List.getElem?_eq_getElem hyo)
       have:=ih (off+1) Mj hr N hN xs ys vs us d' hx hy h2
       simp only[Op.eqFields,if_pos ij,Sem.run_bind,ho,mW uY hu,mW uY Gu,Result.andThen_ok,sN ru ru' h1 hs,Sem.run_ite]
       cases c<;>simp[this]
      ·simp at he
     ·simp at hf
    ·split at hf
     ·rename_i fs' sk
      split at hf
      ·rename_i eu
       split at hf
       ·rename_i ts1 hts1
        split at hf
        ·rename_i fo
         simp only[Option.map_eq_some_iff]at hf
         obtain⟨Mj,hr,rfl⟩:=hf
         obtain⟨c,d',h1,h2,rfl⟩:=Gc he
         obtain⟨l1,l2⟩:=sb he
         simp only[List.length_append,List.length_take,List.length_drop]at l1 l2
         have uY:om P f.type=some true:=by simp[om,sk]
         have jx:0<ts1.length:=List.length_pos_iff.2 fo.2
         have Pf:off+ts1.length<=xs.length:=by omega
         have hy1:off+ts1.length<=ys.length:=by omega
         rw[List.drop_take,List.drop_drop,List.drop_take,List.drop_drop]at h2
         rw[List.take_take,List.take_take]at h1
         simp only[List.length_append]at h1 h2
         rw[Nat.min_eq_left (by omega)]at h1
         have e2:ts1.length+Mj.length-ts1.length=Mj.length:=by omega
         rw[e2]at h2
         have:=ih (off+ts1.length) Mj hr N hN xs ys vs us d' hx hy h2
         have fI:=ihd fs'.toList 0 ts1 hts1 (N-1) (by omega) _ _ _ _ c (hx.part off ts1.length Pf) (hy.part off ts1.length hy1) (by simpa[List.take_take]using h1)
         have hN':N-1+1=N:=by omega
         rw[hN']at fI
         have O1:P.fieldsOf f.type=fs':=by simp[Program.fieldsOf,sk]
         simp only[Op.eqFields,if_pos ij,Sem.run_bind,ho,pU uY fo.1,Result.andThen_ok,Sem.run_ite]
         rw[run_equalIn_struct w N f.type _ _ (by rw[O1];exact sk) (by simpa using eu),O1,fI]
         cases c<;>simp[this]
        ·simp at hf
       ·simp at hf
      ·simp at hf
     ·simp at hf
   ·simp at hf
theorem UN {x y:Operand} {x' y':O} {t yt:TypeId} {neg:Bool} {s:TS} {b:Bool} (E:cX P w D ι env a) (ho:o.op=.binOp (if neg then .neq else .eql) t x y yt) (hs:fG P t=some s) (hx:cO P x=some x') (hy:cO P y=some y')
  (hv:fC s (dd env x') (dd env y')=some b):oL P a o w D ι (.bool (dj neg b)):=by
 have rx:=dw E hx
 have ry:=dw E hy
 refine⟨.bool (dj neg b),?_,.fa _ _ (.bool _)⟩
 have e0:(eqGuard (if neg then .neq else .eql) t x y (a.eval x) (a.eval y)).run P w=.ok () w:=by
  unfold fC at hv
  split at hv
  ·rename_i k n k' m h1 h2
   rw[h1]at rx;rw[h2]at ry
   rw[dB rx,dB ry];unfold eqGuard;cases neg<;>simp
  ·rename_i n m h1 h2
   rw[h1]at rx;rw[h2]at ry
   rw[fu rx,fu ry];unfold eqGuard;cases neg<;>simp
  ·rename_i n m h1 h2
   rw[h1]at rx;rw[h2]at ry
   rw[fV rx,fV ry];unfold eqGuard;cases neg<;>simp
  ·simp at hv
 have e1:(binOp (if neg then .neq else .eql) t (a.eval x) (a.eval y)).run P w=.ok (.bool (dj neg b)) w:=by
  have q:=sN (d:=9999) rx ry hv hs
  unfold fC at hv
  split at hv
  ·rename_i k n k' m h1 h2
   split at hv
   ·rename_i hk
    subst hk
    simp at hv;subst hv
    rw[h1]at rx;rw[h2]at ry
    rw[dB rx,dB ry]
    cases neg<;>simp only[binOp,ne_eq,not_true_eq_false,if_false,Op.intCmp,dj,if_true,Bool.false_eq_true]<;>simp[bne]<;>rfl
   ·simp at hv
  ·rename_i n m h1 h2
   rw[h1]at rx;rw[h2]at ry
   rw[fu rx,fu ry]at q ⊢
   cases neg<;>simp only[binOp,dj,if_true,Bool.false_eq_true,if_false,Sem.run_bind]<;>simp[Op.equal,Op.maxDepth,q]
  ·rename_i n m h1 h2
   simp at hv;subst hv
   rw[h1]at rx;rw[h2]at ry
   rw[fV rx,fV ry]
   cases neg<;>simp[binOp,Op.stringOp,dj,GU]
  ·simp at hv
 simp only[execOp,ho,Sem.run_bind,e0,e1,Result.andThen_ok,Sem.run_pure]
theorem UL {x y:Operand} {x' y':O} {t yt:TypeId} {neg:Bool} {ts:List TS} {fs:Array Field} {xs ys:List AV} {b:Bool} (E:cX P w D ι env a) (ho:o.op=.binOp (if neg then .neq else .eql) t x y yt) (sk:P.underlying t=some (.struct fs)) (eu:P.stoodInHeld t=false) (M3:P.eqGuardType P.depth t=false)
  (ym:eP P 4 0 fs.toList=some ts) (hx:cO P x=some x') (hy:cO P y=some y') (h1:dd env x'=.agg xs) (h2:dd env y'=.agg ys)
  (hv:eY ts xs ys=some b):oL P a o w D ι (.bool (dj neg b)):=by
 obtain⟨vs,f,rx,n1,_,f1,r1⟩:=iE (h1▸dw E hx)
 obtain⟨us,f',ry,n2,_,f2,r2⟩:=iE (h2▸dw E hy)
 refine⟨.bool (dj neg b),?_,.fa _ _ (.bool _)⟩
 obtain⟨l1,l2⟩:=sb hv
 have L:∀(xs:List AV) (vs:Array Value) (f:Nat->Value),vs.size=xs.length->(∀j,j<xs.length->vs[j]? =some (f j))->(∀j a,xs[j]? =some a->dm P w D ι a (f j))->fb P w D ι xs vs:=fun xs vs f h1 h2 h3=>
  ⟨h1,fun j a ha=>⟨f j,h2 j (List.getElem?_eq_some_iff.1 ha).1,h3 j a ha⟩⟩
 have q:=sM (w:=w) 4 fs.toList 0 ts ym 9998 (by omega) xs ys vs us b (L _ _ _ n1 f1 r1) (L _ _ _ n2 f2 r2) (by simpa[List.take_of_length_le,l1,l2]using hv)
 have O1:P.fieldsOf t=fs:=by simp[Program.fieldsOf,sk]
 have q2:(Op.equal t (.agg vs) (.agg us)).run P w=.ok b w:=by
  unfold Op.equal
  rw[show Op.maxDepth=9999+1 from rfl,run_equalIn_struct w 9999 t _ _ (by rw[O1];exact sk) eu,O1,q]
 simp only[execOp,ho,Sem.run_bind,rx,ry,run_eqGuard_agg w _ _ _ _ _ _ M3,Result.andThen_ok]
 cases neg<;>simp[binOp,q2,dj]
theorem RI {x:Operand} {x':O} {t yt e:TypeId} {neg:Bool} {b:Bool} (E:cX P w D ι env a) (ho:o.op=.binOp (if neg then .neq else .eql) t x (.const (.slice none 0 0)) yt) (ht:P.underlying t=some (.slice e)) (hx:cO P x=some x')
  (hv:cU (dd env x')=some b):oL P a o w D ι (.bool (dj neg b)):=by
 have hr:=dw E hx
 have rx:∃A n c,a.eval x=.slice A n c/\b=A.isNone:=by
  unfold cU at hv
  split at hv<;>simp at hv<;>subst hv<;>rename_i hh
  ·rw[hh]at hr;exact⟨_,_,_,iS hr,rfl⟩
  ·rw[hh]at hr;obtain⟨o,cap,B,h,_⟩:=iq hr
   exact⟨_,_,_,h,rfl⟩
  ·rw[hh]at hr
   obtain⟨A,c,h',_,_,h⟩:=xr hr
   rcases h with h|⟨b,o,sz,vs,rfl,_⟩
   ·simp at h
   ·exact⟨_,_,_,h',rfl⟩
 refine⟨.bool (dj neg b),?_,.fa _ _ (.bool _)⟩
 obtain⟨A,n,c,h,rfl⟩:=rx
 have hq:(Op.equal t (.slice A n c) (.slice none 0 0)).run P w=.ok A.isNone w:=by
  unfold Op.equal
  rw[show Op.maxDepth=9999+1 from rfl,Op.equalIn]
  simp only[Sem.run_bind,run_underlying ht,Result.andThen_ok]
  cases A<;>rfl
 have hc:a.eval (.const (.slice none 0 0))=.slice none 0 0:=rfl
 simp only[execOp,ho,h,hc]
 cases neg<;>simp only[Bool.false_eq_true,if_false,if_true,Bool.not_true,Bool.not_false,eqGuard,binOp,dj,Sem.run_bind,hq,Result.andThen_ok,Sem.run_pure]
theorem UM {x:Operand} {x':O} {t yt e:TypeId} {neg:Bool} {b:Bool} (E:cX P w D ι env a) (ho:o.op=.binOp (if neg then .neq else .eql) t x (.const (.pointer none)) yt) (ht:P.underlying t=some (.pointer e)) (hx:cO P x=some x')
  (hv:LQ (dd env x')=some b):oL P a o w D ι (.bool (dj neg b)):=by
 have hr:=dw E hx
 have rx:∃A,a.eval x=.pointer A/\b=A.isNone:=by
  unfold LQ at hv
  split at hv<;>simp at hv<;>subst hv<;>rename_i hh
  ·rw[hh]at hr;exact⟨_,Lh hr,rfl⟩
  ·rw[hh]at hr;obtain⟨B,h,_⟩:=iY hr
   exact⟨_,h,rfl⟩
  ·rw[hh]at hr;obtain⟨_,_,_,h,_⟩:=lD hr
   exact⟨_,h,rfl⟩
 refine⟨.bool (dj neg b),?_,.fa _ _ (.bool _)⟩
 obtain⟨A,h,rfl⟩:=rx
 have hq:(Op.equal t (.pointer A) (.pointer none)).run P w=.ok A.isNone w:=by
  unfold Op.equal
  rw[show Op.maxDepth=9999+1 from rfl,Op.equalIn]
  simp only[Sem.run_bind,run_underlying ht,Result.andThen_ok]
  cases A<;>rfl
 have hc:a.eval (.const (.pointer none))=.pointer none:=rfl
 simp only[execOp,ho,h,hc]
 cases neg<;>simp only[Bool.false_eq_true,if_false,if_true,Bool.not_true,Bool.not_false,eqGuard,binOp,dj,Sem.run_bind,hq,Result.andThen_ok,Sem.run_pure]
theorem RH {x:Operand} {x':O} {t yt:TypeId} {p r:Array TypeId} {va:Bool} {neg:Bool} {b:Bool} (E:cX P w D ι env a) (ho:o.op=.binOp (if neg then .neq else .eql) t x (.const .nilFunc) yt) (ht:P.underlying t=some (.func p r va)) (hx:cO P x=some x')
  (hv:cR (dd env x')=some b):oL P a o w D ι (.bool (dj neg b)):=by
 have hr:=dw E hx
 have rx:a.eval x=.nilFunc/\b=true∨∃f c,a.eval x=.func f #[] c/\b=false:=by
  unfold cR at hv
  split at hv<;>simp at hv<;>subst hv<;>rename_i hh
  ·rw[hh]at hr;exact .inl ⟨xq hr,rfl⟩
  ·rw[hh]at hr;obtain⟨vs,g,h,_⟩:=xo hr
   exact .inr ⟨_,_,h,rfl⟩
 refine⟨.bool (dj neg b),?_,.fa _ _ (.bool _)⟩
 have hc:a.eval (.const .nilFunc)=.nilFunc:=rfl
 rcases rx with⟨h,rfl⟩|⟨f,c,h,rfl⟩
 ·have hq:(Op.equal t .nilFunc .nilFunc).run P w=.ok true w:=by
   unfold Op.equal
   rw[show Op.maxDepth=9999+1 from rfl,Op.equalIn]
   simp only[Sem.run_bind,run_underlying ht,Result.andThen_ok]
   rfl
  simp only[execOp,ho,h,hc]
  cases neg<;>simp only[Bool.false_eq_true,if_false,if_true,Bool.not_true,Bool.not_false,eqGuard,binOp,dj,Sem.run_bind,hq,Result.andThen_ok,Sem.run_pure]
 ·have hq:(Op.equal t (.func f #[] c) .nilFunc).run P w=.ok false w:=by
   unfold Op.equal
   rw[show Op.maxDepth=9999+1 from rfl,Op.equalIn]
   simp only[Sem.run_bind,run_underlying ht,Result.andThen_ok]
   rfl
  simp only[execOp,ho,h,hc]
  cases neg<;>simp only[Bool.false_eq_true,if_false,if_true,Bool.not_true,Bool.not_false,eqGuard,binOp,dj,Sem.run_bind,hq,Result.andThen_ok,Sem.run_pure]
theorem UQ {x:Operand} {x':O} {t:TypeId} (E:cX P w D ι env a) (ho:o.op=.unOp .not t x) (hx:cO P x=some x') (hv:dU (dd env x')=some v):oL P a o w D ι v:=by
 have hr:=dw E hx
 unfold dU at hv
 split at hv
 ·rename_i b hb
  simp at hv;subst hv
  rw[hb]at hr
  exact⟨_,by simp only[execOp,ho,fu hr];rfl,.fa _ _ (.bool _)⟩
 ·simp at hv
theorem UP {x:Operand} {x':O} {t:TypeId} (E:cX P w D ι env a) (ho:o.op=.unOp .neg t x) (hx:cO P x=some x') (hv:dR (dd env x')=some v):oL P a o w D ι v:=by
 have hr:=dw E hx
 unfold dR at hv
 split at hv
 ·rename_i k n hb
  simp at hv;subst hv
  rw[hb]at hr
  refine⟨_,by simp only[execOp,ho,dB hr];rfl,?_⟩
  rw[Int.zero_sub];exact .fa _ _ (.int _ _)
 ·simp at hv
theorem RG {x:Operand} {x':O} {s d:TypeId} {k q:IntKind} (E:cX P w D ι env a) (ho:o.op=.convert s d x) (hs:P.underlying s=some (.int q)) (hd:P.underlying d=some (.int k)) (hx:cO P x=some x') (hv:cI k (dd env x')=some v):oL P a o w D ι v:=by
 have hr:=dw E hx
 unfold cI at hv
 split at hv
 ·rename_i k' n hb
  simp at hv;subst hv
  rw[hb]at hr
  refine⟨.int k (k.wrap n),?_,.fa _ _ (.int _ _)⟩
  simp only[execOp,ho,dB hr,convert,Sem.run_bind,run_underlying hs,run_underlying hd,Result.andThen_ok,Conv.intToInt,Sem.run_pure]
 ·simp at hv
theorem OC {x:Operand} {x':O} {s:TypeId} {i:Nat} {fs:Array Field} {f:Field} {m:Nat} (E:cX P w D ι env a) (ho:o.op=.fieldAddr s x i) (hs:P.underlying s=some (.struct fs)) (hf:fs[i]? =some f) (hm:ez P f.type=some (m+1)) (hx:cO P x=some x')
  (hv:FP f.offset (dd env x')=some v):oL P a o w D ι v:=by
 have hr:=dw E hx
 have go:∀b oo,a.eval x=.pointer (some ⟨b,oo,none⟩)->(execOp a.eval o).run P w=.ok (.value (.pointer (some ⟨b,oo+f.offset,none⟩))) w:=fun b oo h=>by
  simp only[execOp,ho,h,Instr.fieldAt,Sem.run_bind,run_underlying hs,Result.andThen_ok,hf,Instr.sureAddr,Sem.run_pure,fieldPlace,run_sizeOf hm,Nat.add_eq_zero_iff,Nat.one_ne_zero,and_false,if_false,Addr.add]
  split
  ·rename_i h0;simp[h0]
  ·rfl
 unfold FP at hv
 split at hv
 ·rename_i lk i' oo hb
  simp at hv;subst hv
  rw[hb]at hr
  obtain⟨B,h,hB,hk⟩:=iY hr
  refine⟨_,go _ _ h,?_⟩
  rw[Nat.add_assoc]
  exact .ptr _ _ _ _ hB hk
 ·rename_i cs hb
  simp at hv;subst hv
  rw[hb]at hr
  obtain⟨b,oo,vs,h,h1,h2,h3,h4⟩:=lD hr
  refine⟨_,go _ _ h,.fa _ _ (.dp _ _ _ (fun j=>vs (f.offset+j)) h1 (fun a ha=>h2 a (List.mem_of_mem_drop ha)) (fun j hj=>?_) (fun j a ha=>h4 _ _ (by simpa using ha)))⟩
  rw[Nat.add_assoc]
  exact h3 _ (by simp at hj;omega)
 ·simp at hv
theorem OD {x:Operand} {x':O} {s:TypeId} {i n:Nat} {ag:Bool} {fs:Array Field} {f:Field} (E:cX P w D ι env a) (ho:o.op=.field s x i) (hs:P.underlying s=some (.struct fs)) (hf:fs[i]? =some f) (uY:om P f.type=some ag) (hm:ez P f.type=some n) (hx:cO P x=some x')
  (hv:bF ag f.offset n (dd env x')=some v):oL P a o w D ι v:=by
 have hr:=dw E hx
 unfold bF at hv
 split at hv
 ·rename_i cs hb
  split at hv
  ·rename_i hl
   rw[hb]at hr
   obtain⟨vs,g,h,n1,fl,f1,r1⟩:=iE hr
   unfold part at hv
   cases ag with
   |true=>
    simp only[if_true]at hv
    split at hv
    ·simp at hv;subst hv
     refine⟨.agg (vs.extract f.offset (f.offset+n)),?_,.agg _ _ (fun j=>g (f.offset+j)) (by simp[n1];omega) (fun a ha=>fl a (List.mem_of_mem_drop (List.mem_of_mem_take ha))) (fun j hj=>?_) (fun j a ha=>?_)⟩
     ·simp only[execOp,ho,h,Instr.field,Sem.run_bind,run_underlying hs,Result.andThen_ok,hf,asAgg,Sem.run_pure,pU uY hm]
     ·simp at hj
      rw[Array.getElem?_extract,if_pos (by omega)];exact f1 _ (by omega)
     ·rw[List.getElem?_take]at ha
      split at ha
      ·exact r1 _ _ (by simpa using ha)
      ·simp at ha
    ·simp at hv
   |false=>
    simp only[Bool.false_eq_true,if_false]at hv
    have ox:cs[f.offset]? =some v:=by simpa[List.head?_drop]using hv
    have eo:=(List.getElem?_eq_some_iff.1 ox).1
    exact⟨g f.offset,by simp only[execOp,ho,h,Instr.field,Sem.run_bind,run_underlying hs,Result.andThen_ok,hf,asAgg,Sem.run_pure,mW uY (f1 _ eo)],r1 _ _ ox⟩
  ·simp at hv
 ·simp at hv
theorem UR {left:Bool} {x y:Operand} {x' y':O} {t yt:TypeId} (E:cX P w D ι env a) (ho:o.op=.binOp (if left then .shl else .shr) t x y yt) (hx:cO P x=some x') (hy:cO P y=some y') (hv:gz left (dd env x') (dd env y')=some v):oL P a o w D ι v:=by
 unfold gz at hv
 split at hv
 ·rename_i k n k' m hb tq
  split at hv
  ·simp at hv
  ·rename_i hm
   simp at hv;subst hv
   have h1:=dB (hb▸dw E hx)
   have h2:=dB (tq▸dw E hy)
   refine⟨_,?_,.fa _ _ (.int _ _)⟩
   simp only[execOp,ho,h1,h2]
   cases left<;>simp only[Bool.false_eq_true,if_false,if_true,eqGuard,Bool.not_true,Bool.not_false,binOp,Op.shift,hm,Sem.run_bind,Sem.run_pure,Result.andThen_ok]<;>rfl
 ·simp at hv
end
end Go.Proofs.YtgoljkjaameagaaGreat.V

namespace Go.Proofs.YtgoljkjaameagaaGreat.V
open Go.RowKit
variable {P:Program} {w w':World} {D D':Nat->Prop} {ι ι':Names}
theorem kD (b o j:Nat):(⟨b,o,none⟩:Addr).add j=⟨b,o+j,none⟩:=by unfold Addr.add;split<;>simp_all
section
variable {g:Rows} {hs:Nat} {env:Env} {a:Act} {o:Oper} {id:Id} {v:AV}
theorem kU {t:TypeId} {ag:Bool} {n b oo:Nat} {cs:List AV} {v:AV} {f:Nat->Value} (uY:om P t=some ag) (hn:ez P t=some n) (hp:part ag n cs=some v) (fl:∀a∈cs,a.cell=true)
  (hc:∀j,j<cs.length->w.cell? ⟨b,oo+j,none⟩=some (f j)) (hr:∀j a,cs[j]? =some a->dm P w D ι a (f j)):∃u,(loadVar t ⟨b,oo,none⟩).run P w=.ok u w/\dm P w D ι v u:=by
 unfold part at hp
 cases ag with
 |true=>
  simp only[if_true]at hp
  split at hp
  ·rename_i hl
   simp at hp;subst hp
   refine⟨.agg ((List.range n).map f).toArray,?_,.agg _ _ f (by simp;omega) (fun a ha=>fl a (List.mem_of_mem_take ha)) (fun j hj=>?_) (fun j a ha=>?_)⟩
   ·simp only[loadVar,Sem.run_bind,tK uY,Result.andThen_ok,if_true,run_sizeOf hn,Sem.run_pure]
    rw[run_loadCells w _ n f (fun j hj=>by rw[kD];exact hc j (by omega))]
    rfl
   ·simp at hj
    have:j<n:=by omega
    simp[this]
   ·rw[List.getElem?_take]at ha
    split at ha
    ·exact hr _ _ ha
    ·simp at ha
  ·simp at hp
 |false=>
  simp only[Bool.false_eq_true,if_false]at hp
  cases cs with
  |nil=>simp at hp
  |cons c r=>
   simp at hp;subst hp
   refine⟨f 0,?_,hr 0 _ rfl⟩
   simp only[loadVar,Sem.run_bind,tK uY,Result.andThen_ok,Bool.false_eq_true,if_false]
   have:=hc 0 (by simp)
   simp at this
   rw[run_load,this]
theorem Lm {S:gw P hs D ι g w} {i:Nat} {cs:List AV} (h:rowAt g id i=some cs) (hk:∀B,ι id=some B->B.k=none):∃B r,g id=some r/\ι id=some B/\kK P w D ι B r/\r.rows[i]? =some cs/\(∀a∈cs,a.cell=true)/\∃f:Nat->Value,∀j,j<cs.length->w.cell? ⟨B.b,i*B.sz+j,none⟩=some (f j)/\∀a,cs[j]? =some a->dm P w D ι a (f j):=by
 unfold rowAt at h
 simp only[Option.bind_eq_some_iff]at h
 obtain⟨r,hr,hi⟩:=h
 obtain⟨B,hB,R,_,_⟩:=S.row id r hr
 replace R:=R.row (hk B hB)
 refine⟨B,r,hr,hB,R,hi,R.flat cs (List.mem_of_getElem? hi),fun j=>(w.cell? ⟨B.b,i*B.sz+j,none⟩).getD undef,fun j hj=>?_⟩
 obtain⟨u,hu,yk⟩:=R.at_ i j cs _ hi (List.getElem?_eq_getElem hj)
 rw[R.sz,hu]
 refine⟨by simp only[hu,Option.getD_some],fun a ha=>?_⟩
 rw[List.getElem?_eq_getElem hj]at ha
 injection ha with ha
 subst ha
 simpa only[hu,Option.getD_some]using yk
theorem RP {x:Operand} {x':O} {t:TypeId} {ag:Bool} {n:Nat} (S:gw P hs D ι g w) (E:cX P w D ι env a) (ho:o.op=.load t x) (uY:om P t=some ag) (hn:ez P t=some n) (hx:cO P x=some x') (hv:ld g ag n (dd env x')=some v):oL P a o w D ι v:=by
 have hr:=dw E hx
 have go:∀b oo u,a.eval x=.pointer (some ⟨b,oo,none⟩)->(loadVar t ⟨b,oo,none⟩).run P w=.ok u w->(execOp a.eval o).run P w=.ok (.value u) w:=fun b oo u h h2=>by
  simp only[execOp,ho,h,Instr.loadAt,Instr.sureAddr,Sem.run_bind,Sem.run_pure,Result.andThen_ok,h2]
 unfold ld at hv
 split at hv
 ·rename_i lk i' oo hb
  rw[hb]at hr
  obtain⟨B,h,hB,hk⟩:=iY hr
  simp only[Option.bind_eq_some_iff]at hv
  obtain⟨cs,dz,hp⟩:=hv
  obtain⟨B',r,I6,eb,R,hi,fl,f,hf⟩:=Lm (S:=S) dz (fun B2 h2=>by rw[hB]at h2;injection h2 with h2;subst h2;exact hk)
  rw[hB]at eb;injection eb with eb;subst eb
  obtain⟨u,h1,h2⟩:=kU (w:=w) (b:=B.b) (oo:=i'*B.sz+oo) (f:=fun j=>f (oo+j)) uY hn hp (fun a ha=>fl a (List.mem_of_mem_drop ha)) (fun j hj=>by
   rw[Nat.add_assoc];exact(hf _ (by simp at hj;omega)).1) (fun j a ha=>by
   simp at ha;exact(hf _ ((List.getElem?_eq_some_iff.1 ha).1)).2 _ ha)
  exact⟨u,go _ _ _ h h1,h2⟩
 ·rename_i cs hb
  rw[hb]at hr
  obtain⟨b,oo,vs,h,h1,h2,h3,h4⟩:=lD hr
  obtain⟨u,k1,k2⟩:=kU (w:=w) (b:=b) (oo:=oo) (f:=vs) uY hn hv h2 h3 (fun j a ha=>.fa _ _ (h4 j a ha))
  exact⟨u,go _ _ _ h k1,k2⟩
 ·simp at hv
theorem UK {x:Operand} {x':O} (E:cX P w D ι env a) (ho:o.op=.nilCheck x) (hx:cO P x=some x') (hv:dP (dd env x')=some v):oL P a o w D ι v:=by
 have hr:=dw E hx
 unfold dP at hv
 split at hv
 ·rename_i lk i' oo hb
  simp at hv;subst hv
  rw[hb]at hr
  obtain⟨B,h,hB,hk⟩:=iY hr
  exact⟨_,by simp only[execOp,ho,h];rfl,.ptr _ _ _ _ hB hk⟩
 ·rename_i cs hb
  simp at hv;subst hv
  rw[hb]at hr
  obtain⟨b,oo,vs,h,_⟩:=lD hr
  exact⟨_,by simp only[execOp,ho,h];rfl,h▸hr⟩
 ·simp at hv
theorem OE {x i:Operand} {x' i':O} {t e:TypeId} {m:Nat} (S:gw P hs D ι g w) (E:cX P w D ι env a) (ho:o.op=.indexAddr t x i) (ht:P.underlying t=some (.slice e)) (hm:ez P e=some (m+1)) (hx:cO P x=some x') (hi:cO P i=some i')
  (hv:bG g (m+1) (dd env x') (dd env i')=some v):oL P a o w D ι v:=by
 have hr:=dw E hx
 have EP:=dw E hi
 have go:∀b oo n c k (q:Int),a.eval x=.slice (some ⟨b,oo,none⟩) n c->a.eval i=.int k q->0<=q->q<n->(execOp a.eval o).run P w=.ok (.value (.pointer (some ⟨b,oo+q.toNat*(m+1),none⟩))) w:=fun b oo n c k q h h2 h3 h4=>by
  simp only[execOp,ho,h,h2,Instr.indexAt,asIntOf,Sem.run_bind,Sem.run_pure,run_underlying ht,Result.andThen_ok,h3,h4,and_self,if_true,run_sizeOf hm,kD]
 unfold bG at hv
 split at hv
 ·rename_i rows k q hb tq
  split at hv
  ·rename_i hq
   simp only[Option.bind_eq_some_iff]at hv
   obtain⟨cs,dz,hv⟩:=hv
   split at hv
   ·rename_i hlen
    simp at hv;subst hv
    rw[hb]at hr;rw[tq]at EP
    have eo:=(List.getElem?_eq_some_iff.1 dz).1
    obtain⟨A,c,h,h1,h2,h3⟩:=xr hr
    rcases h3 with h3|⟨b,oo,sz,vs,rfl,hD,hl,fl,hc,hi⟩
    ·subst h3;simp at dz
    have fo:sz=m+1:=by rw[<-hlen,hl cs (List.mem_of_getElem? dz)]
    refine⟨_,go b oo _ _ k q h (dB EP) hq (by omega),.fa _ _ (.dp cs b _ (vs q.toNat) hD (fl cs (List.mem_of_getElem? dz)) (fun j hj=>?_) (fun j a ha=>hi _ _ _ _ dz ha))⟩
    have:=hc q.toNat j eo (by rw[<-hl cs (List.mem_of_getElem? dz)];exact hj)
    rw[fo]at this
    rw[Nat.add_assoc];exact this
   ·simp at hv
  ·simp at hv
 ·rename_i lk off len k q hb tq
  split at hv
  ·rename_i hq
   simp only[Option.bind_eq_some_iff]at hv
   obtain⟨r,I6,hv⟩:=hv
   split at hv
   ·rename_i y4
    simp at hv;subst hv
    rw[hb]at hr;rw[tq]at EP
    obtain⟨oo,cap,B,h,hB,h1,h2,h3,h4,hk⟩:=iq hr
    obtain⟨B',eb,R,_,_⟩:=S.row _ _ I6
    rw[hB]at eb;injection eb with eb;subst eb
    replace R:=R.row hk
    have fo:B.sz=m+1:=R.sz.trans y4
    refine⟨_,go _ _ _ _ k q h (dB EP) hq.1 hq.2,?_⟩
    have Dt:oo=off*B.sz:=by rcases h2 with h2|h2<;>omega
    have:oo+q.toNat*(m+1)=(off+q.toNat)*B.sz+0:=by rw[Dt,<-fo,Nat.add_mul];rfl
    rw[this]
    exact .ptr _ _ _ _ hB hk
   ·simp at hv
  ·simp at hv
 ·simp at hv
theorem RJ {x i:Operand} {x' i':O} {t e:TypeId} {m len:Nat} (E:cX P w D ι env a) (ho:o.op=.indexAddr t x i) (ht:P.underlying t=some (.array len e)) (hm:ez P e=some (m+1)) (hx:cO P x=some x') (hi:cO P i=some i')
  (hv:cJ len (m+1) (dd env x') (dd env i')=some v):oL P a o w D ι v:=by
 have hr:=dw E hx
 have EP:=dw E hi
 have go:∀b oo k (q:Int),a.eval x=.pointer (some ⟨b,oo,none⟩)->a.eval i=.int k q->0<=q->q<len->(execOp a.eval o).run P w=.ok (.value (.pointer (some ⟨b,oo+q.toNat*(m+1),none⟩))) w:=fun b oo k q h h2 h3 h4=>by
  simp only[execOp,ho,h,h2,Instr.indexAt,asIntOf,Sem.run_bind,Sem.run_pure,run_underlying ht,Instr.sureAddr,Result.andThen_ok,h3,h4,and_self,if_true,run_sizeOf hm,kD]
 unfold cJ at hv
 split at hv
 ·rename_i lk r oo k q hb tq
  split at hv
  ·rename_i hq
   simp at hv;subst hv
   rw[hb]at hr;rw[tq]at EP
   obtain⟨B,h,hB,hk⟩:=iY hr
   refine⟨_,go _ _ k q h (dB EP) hq.1 hq.2,?_⟩
   rw[Nat.add_assoc]
   exact .ptr _ _ _ _ hB hk
  ·simp at hv
 ·rename_i cs k q hb tq
  split at hv
  ·rename_i hq
   simp at hv;subst hv
   rw[hb]at hr;rw[tq]at EP
   obtain⟨b,oo,vs,h,h1,h2,h3,h4⟩:=lD hr
   refine⟨_,go _ _ k q h (dB EP) hq.1 hq.2,.fa _ _ (.dp _ _ _ (fun j=>vs (q.toNat*(m+1)+j)) h1 (fun a ha=>h2 a (List.mem_of_mem_drop ha)) (fun j hj=>?_) (fun j a ha=>h4 _ _ (by simpa using ha)))⟩
   rw[Nat.add_assoc]
   exact h3 _ (by simp at hj;omega)
  ·simp at hv
 ·simp at hv
theorem RL {x i:Operand} {x' i':O} {t:TypeId} (E:cX P w D ι env a) (ho:o.op=.index t x i) (ht:P.underlying t=some .string) (hx:cO P x=some x') (hi:cO P i=some i')
  (hv:cL (dd env x') (dd env i')=some v):oL P a o w D ι v:=by
 have hr:=dw E hx
 have EP:=dw E hi
 unfold cL at hv
 split at hv
 ·rename_i s k q hb tq
  split at hv
  ·rename_i hq
   simp only[Option.map_eq_some_iff]at hv
   obtain⟨c,hc,rfl⟩:=hv
   rw[hb]at hr;rw[tq]at EP
   refine⟨_,?_,.fa _ _ (.int _ _)⟩
   simp only[execOp,ho,fV hr,dB EP,Instr.index,asIntOf,Sem.run_bind,Sem.run_pure,run_underlying ht,Result.andThen_ok,hq,if_true,hc]
  ·simp at hv
 ·simp at hv
theorem RK {x i:Operand} {x' i':O} {t e:TypeId} {ag:Bool} {len n:Nat} (E:cX P w D ι env a) (ho:o.op=.index t x i) (ht:P.underlying t=some (.array len e)) (uY:om P e=some ag) (hn:ez P e=some n) (hx:cO P x=some x') (hi:cO P i=some i')
  (hv:cK ag len n (dd env x') (dd env i')=some v):oL P a o w D ι v:=by
 have hr:=dw E hx
 have EP:=dw E hi
 unfold cK at hv
 split at hv
 ·rename_i cs k q hb tq
  split at hv
  ·rename_i hq
   rw[hb]at hr;rw[tq]at EP
   obtain⟨vs,f,h,n1,fl,f1,r1⟩:=iE hr
   have go:∀u,(Go.part e vs (q.toNat*n)).run P w=.ok u w->(execOp a.eval o).run P w=.ok (.value u) w:=fun u hu=>by
    simp only[execOp,ho,h,dB EP,Instr.index,asIntOf,Sem.run_bind,Sem.run_pure,run_underlying ht,Result.andThen_ok,hq,and_self,if_true,run_sizeOf hn,hu]
   unfold part at hv
   cases ag with
   |true=>
    simp only[if_true]at hv
    split at hv
    ·rename_i hl
     simp at hv;subst hv
     simp only[List.length_drop]at hl
     by_cases I8:n=0
     ·subst I8
      refine⟨_,go _ (pU uY hn),.agg _ _ (fun _=>undef) (by simp) (fun a ha=>by simp at ha) (fun j hj=>by simp at hj) (fun j a ha=>by simp at ha)⟩
     refine⟨_,go _ (pU uY hn),.agg _ _ (fun j=>f (q.toNat*n+j)) (by simp[n1];omega) (fun a ha=>fl a (List.mem_of_mem_drop (List.mem_of_mem_take ha))) (fun j hj=>?_) (fun j a ha=>?_)⟩
     ·simp at hj
      rw[Array.getElem?_extract,if_pos (by omega)];exact f1 _ (by omega)
     ·rw[List.getElem?_take]at ha
      split at ha
      ·exact r1 _ _ (by simpa using ha)
      ·simp at ha
    ·simp at hv
   |false=>
    simp only[Bool.false_eq_true,if_false]at hv
    have ox:cs[q.toNat*n]? =some v:=by simpa[List.head?_drop]using hv
    have eo:=(List.getElem?_eq_some_iff.1 ox).1
    exact⟨_,go _ (mW uY (f1 _ eo)),r1 _ _ ox⟩
  ·simp at hv
 ·simp at hv
theorem I1 {x:Operand} {x':O} {i:Nat} (E:cX P w D ι env a) (ho:o.op=.extract x i) (hx:cO P x=some x') (hv:aL i (dd env x')=some v):oL P a o w D ι v:=by
 have hr:=dw E hx
 unfold aL at hv
 split at hv
 ·rename_i vs hb
  rw[hb]at hr
  obtain⟨us,f,h,h1,h2,h3⟩:=vn hr
  have eo:=(List.getElem?_eq_some_iff.1 hv).1
  exact⟨_,by simp only[execOp,ho,h,Instr.extract,h2 _ eo];rfl,h3 _ _ hv⟩
 ·simp at hv
theorem UO {x:Operand} {x':O} {t:TypeId} {e:TypeId} {n:Nat} (E:cX P w D ι env a) (ho:o.op=.call {callee:=.builtin .len,args:= #[x],argTypes:= #[t]}) (ht:P.underlying t=some (.slice e)) (hx:cO P x=some x') (hv:dQ (dd env x')=some n):oL P a o w D ι (.int .i64 n):=by
 have hr:=dw E hx
 have go:∀A c,a.eval x=.slice A n c->(execOp a.eval o).run P w=.ok (.value (.int .i64 n)) w:=fun A c h=>by
  simp only[execOp,ho,resolve,Sem.run_bind,Sem.run_pure,Result.andThen_ok,invoke,builtin,Array.map,h]
  simp[Builtin.len_,run_underlying ht,goInt,h]
 refine⟨.int .i64 n,?_,.fa _ _ (.int _ _)⟩
 unfold dQ at hv
 split at hv<;>simp at hv<;>subst hv<;>rename_i hb<;>rw[hb]at hr
 ·exact go _ _ (iS hr)
 ·obtain⟨A,c,h,_⟩:=xr hr;exact go _ _ h
 ·obtain⟨oo,cap,B,h,_⟩:=iq hr;exact go _ _ h
theorem RN {x:Operand} {x':O} {t:TypeId} (E:cX P w D ι env a) (ho:o.op=.call {callee:=.builtin .len,args:= #[x],argTypes:= #[t]}) (ht:P.underlying t=some .string) (hx:cO P x=some x') (hv:cP (dd env x')=some v):oL P a o w D ι v:=by
 have hr:=dw E hx
 unfold cP at hv
 split at hv
 ·rename_i s hb
  simp at hv;subst hv
  rw[hb]at hr
  have h:=fV hr
  refine⟨_,?_,.fa _ _ (.int _ _)⟩
  simp only[execOp,ho,resolve,Sem.run_bind,Sem.run_pure,Result.andThen_ok,invoke,builtin,Array.map,h]
  simp[Builtin.len_,run_underlying ht,goInt,h]
 ·simp at hv
theorem nJ {isS:Bool} {len cap h l:Nat} {lo hi:Option Operand} {Ph rP:Option O} (E:cX P w D ι env a) (jQ:r6 P lo=some Ph) (Dx:r6 P hi=some rP) (hh:dG len (rP.map (dd env))=some h) (hl:dH h (Ph.map (dd env))=some l) (hc:len<=cap):
  (Instr.sliceBounds isS len cap (lo.map a.eval) (hi.map a.eval) none).run P w=.ok (l,h,cap) w/\l<=h/\h<=len:=by
 have bound:∀(x:Operand) (y:O) (k:IntKind) (n:Int) (m:Nat) (c:BoundsCode),cO P x=some y->dd env y=.int k n->0<=n->n<=m->(Instr.sliceBound (a.eval x) m c).run P w=.ok n.toNat w:=fun x y k n m c hx hy h0 h1=>by
  have hr:=dw E hx
  rw[hy]at hr
  simp only[Instr.sliceBound,dB hr,asIntOf,Sem.run_bind,Sem.run_pure,Result.andThen_ok,h0,h1,and_self,if_true]
 have H:h<=len/\((hi=none/\h=len)∨∃x,hi=some x/\∀c,(Instr.sliceBound (a.eval x) cap c).run P w=.ok h w):=by
  cases hi with
  |none=>
   simp[r6]at Dx;subst Dx
   simp[dG]at hh;subst hh
   exact⟨Nat.le_refl _,.inl ⟨rfl,rfl⟩⟩
  |some x=>
   simp only[r6,Option.map_eq_some_iff]at Dx
   obtain⟨y,hy,rfl⟩:=Dx
   simp only[Option.map_some,dG]at hh
   split at hh
   ·rename_i e;cases e
   ·rename_i k n e
    injection e with e
    split at hh
    ·rename_i hn
     simp at hh;subst hh
     exact⟨by omega,.inr ⟨x,rfl,fun c=>bound x y k n _ _ hy e hn.1 (by omega)⟩⟩
    ·simp at hh
   ·simp at hh
 have L:l<=h/\((lo=none/\l=0)∨∃x,lo=some x/\∀c,(Instr.sliceBound (a.eval x) h c).run P w=.ok l w):=by
  cases lo with
  |none=>
   simp[r6]at jQ;subst jQ
   simp[dH]at hl;subst hl
   exact⟨Nat.zero_le _,.inl ⟨rfl,rfl⟩⟩
  |some x=>
   simp only[r6,Option.map_eq_some_iff]at jQ
   obtain⟨y,hy,rfl⟩:=jQ
   simp only[Option.map_some,dH]at hl
   split at hl
   ·rename_i e;cases e
   ·rename_i k n e
    injection e with e
    split at hl
    ·rename_i hn
     simp at hl;subst hl
     exact⟨by omega,.inr ⟨x,rfl,fun c=>bound x y k n h _ hy e hn.1 hn.2⟩⟩
    ·simp at hl
   ·simp at hl
 refine⟨?_,L.1,H.1⟩
 unfold Instr.sliceBounds
 rcases H.2 with⟨rfl,rfl⟩|⟨x,rfl,hx⟩<;>rcases L.2 with⟨rfl,rfl⟩|⟨y,rfl,hy⟩<;>
  simp only[Option.map_none,Option.map_some,Sem.run_bind,Sem.run_pure,Result.andThen_ok, *]
theorem OF {x:Operand} {x':O} {lo hi:Option Operand} {Ph rP:Option O} {t e:TypeId} {m:Nat} (S:gw P hs D ι g w) (E:cX P w D ι env a) (ho:o.op=.slice t x lo hi none) (ht:P.underlying t=some (.slice e)) (hm:ez P e=some m) (hx:cO P x=some x') (jQ:r6 P lo=some Ph) (Dx:r6 P hi=some rP)
  (hv:bH g m (dd env x') (Ph.map (dd env)) (rP.map (dd env))=some v):oL P a o w D ι v:=by
 have hr:=dw E hx
 have go:∀A len cap l h,a.eval x=.slice A len cap->(Instr.sliceBounds true len cap (lo.map a.eval) (hi.map a.eval) none).run P w=.ok (l,h,cap) w->(execOp a.eval o).run P w=.ok (.value (.slice (if cap=l then A else A.map (·.add (l*m))) (h-l) (cap-l))) w:=fun A len cap l h h1 h2=>by
  simp only[execOp,ho,h1,Instr.sliceAt,Instr.slice,Sem.run_bind,Sem.run_pure,run_underlying ht,Result.andThen_ok,Option.map_none,h2,run_sizeOf hm]
 unfold bH at hv
 split at hv
 ·rename_i hb
  rw[hb]at hr
  simp only[Option.bind_eq_some_iff,Option.map_eq_some_iff]at hv
  obtain⟨h,hh,l,hl,rfl⟩:=hv
  obtain⟨q,q1,q2⟩:=nJ (w:=w) (isS:=true) (cap:=0) E jQ Dx hh hl (Nat.le_refl _)
  have h0:h=0:=by omega
  have l0:l=0:=by omega
  subst h0;subst l0
  refine⟨_,go _ _ _ _ _ (iS hr) q,?_⟩
  simp;exact .fa _ _ .cj
 ·rename_i rows hb
  rw[hb]at hr
  simp only[Option.bind_eq_some_iff,Option.map_eq_some_iff]at hv
  obtain⟨h,hh,l,hl,hv⟩:=hv
  split at hv
  ·rename_i eh
   simp at hv;subst hv
   obtain⟨A,c,he,c1,c2,h3⟩:=xr hr
   obtain⟨q,q1,q2⟩:=nJ (w:=w) (isS:=true) (cap:=c) E jQ Dx hh hl c1
   refine⟨_,go _ _ _ _ _ he q,.fa _ _ ?_⟩
   have hlen:((rows.drop l).take (h-l)).length=h-l:=by simp;omega
   by_cases hz:h-l=0
   ·have:(rows.drop l).take (h-l)=[]:=by rw[hz];simp
    rw[this,hz]
    exact .DI _ _ (by omega)
   ·rcases h3 with h3|⟨b,oo,sz,vs,rfl,hD,Md,fl,hc,hi⟩
    ·subst h3;simp at q2;omega
    rw[if_neg (by omega)]
    simp only[Option.map_some,kD]
    have Cj:sz=m:=by
     have eo:l<rows.length:=by omega
     have:=eh rows[l] (List.getElem_mem eo)
     rw[<-this,Md _ (List.getElem_mem eo)]
    subst Cj
    refine .sl _ b _ _ _ sz (fun i j=>vs (l+i) j) hlen (by omega) (by omega) hD (fun cs dz=>Md cs (List.mem_of_mem_drop (List.mem_of_mem_take dz))) (fun cs dz=>fl cs (List.mem_of_mem_drop (List.mem_of_mem_take dz))) (fun i j hi hj=>?_) (fun i j cs a dz ha=>?_)
    ·rw[<-hc (l+i) j (by omega) hj,Nat.add_mul]
     congr 2;omega
    ·rw[List.getElem?_take]at dz
     split at dz
     ·exact hi _ _ _ _ (by simpa using dz) ha
     ·simp at dz
  ·simp at hv
 ·rename_i lk off len hb
  rw[hb]at hr
  simp only[Option.bind_eq_some_iff,Option.map_eq_some_iff]at hv
  obtain⟨r,I6,h,hh,l,hl,hv⟩:=hv
  split at hv
  ·rename_i y4
   simp at hv;subst hv
   obtain⟨oo,cap,B,he,hB,h1,h2,h3,h4,hk⟩:=iq hr
   obtain⟨B',eb,R,_,_⟩:=S.row _ _ I6
   rw[hB]at eb;injection eb with eb;subst eb
   replace R:=R.row hk
   have fo:B.sz=m:=R.sz.trans y4
   obtain⟨q,q1,q2⟩:=nJ (w:=w) (isS:=true) (cap:=cap) E jQ Dx hh hl h1
   refine⟨_,go _ _ _ _ _ he q,?_⟩
   have e1:(off+l+(cap-l))*B.sz<=B.C:=by rw[show off+l+(cap-l)=off+cap by omega];exact h3
   by_cases mi:cap=l
   ·rw[if_pos mi]
    exact .own _ _ _ _ _ B hB hk (by omega) (.inl (by omega)) e1 (by omega)
   ·rw[if_neg mi]
    simp only[Option.map_some,kD]
    have Dt:oo=off*B.sz:=by rcases h2 with h2|h2<;>omega
    exact .own _ _ _ _ _ B hB hk (by omega) (.inr (by rw[Dt,fo,Nat.add_mul])) e1 (by omega)
  ·simp at hv
 ·simp at hv
theorem LY {x:Operand} {x':O} {lo hi:Option Operand} {Ph rP:Option O} {t:TypeId} (E:cX P w D ι env a) (ho:o.op=.slice t x lo hi none) (ht:P.underlying t=some .string) (hx:cO P x=some x') (jQ:r6 P lo=some Ph) (Dx:r6 P hi=some rP)
  (hv:aZ (dd env x') (Ph.map (dd env)) (rP.map (dd env))=some v):oL P a o w D ι v:=by
 have hr:=dw E hx
 unfold aZ at hv
 split at hv
 ·rename_i s hb
  rw[hb]at hr
  simp only[Option.bind_eq_some_iff,Option.map_eq_some_iff]at hv
  obtain⟨h,hh,l,hl,rfl⟩:=hv
  obtain⟨q,_,_⟩:=nJ (w:=w) (isS:=false) E jQ Dx hh hl (Nat.le_refl _)
  refine⟨_,?_,.fa _ _ (.str _)⟩
  simp only[execOp,ho,fV hr,Instr.sliceAt,Instr.slice,Sem.run_bind,Sem.run_pure,run_underlying ht,Result.andThen_ok,Option.map_none,Option.isSome_none,Bool.false_eq_true,if_false,q]
 ·simp at hv
theorem Fk {xs:List Operand} {ys:List O} (E:cX P w D ι env a) (h:xs.mapM (cO P)=some ys):(xs.map a.eval).length=ys.length/\∀j y,ys[j]? =some y->dm P w D ι (dd env y) ((xs.map a.eval).getD j undef):=by
 induction xs generalizing ys with
 |nil=>simp at h;subst h;simp
 |cons x r ih=>
  simp only[List.mapM_cons,Option.bind_eq_bind,Option.bind_eq_some_iff]at h
  obtain⟨c,hc,qw,dz,h⟩:=h
  simp at h;subst h
  obtain⟨h1,h2⟩:=ih dz
  refine⟨by simpa using h1,fun j d hd=>?_⟩
  cases j with
  |zero=>simp at hd ⊢;subst hd;exact dw E hc
  |succ j=>simp at hd ⊢;simpa using h2 j d hd
theorem RS {f:Nat} {first dn:Array Operand} {BM:List O} (E:cX P w D ι env a) (ho:o.op=.makeFunc (.func f) first dn) (hf:first= #[]) (hc:gj P f=true) (hx:dn.toList.mapM (cO P)=some BM):oL P a o w D ι (.fn f (BM.map (dd env))):=by
 subst hf
 obtain⟨h1,h2⟩:=Fk E hx
 refine⟨.func (.func f) #[] (dn.map a.eval),by simp only[execOp,ho,Instr.makeFunc,Sem.run_bind,Sem.run_pure,Result.andThen_ok];simp,.fn _ _ _ (fun j=>(dn.toList.map a.eval).getD j undef) hc (by simpa using h1) (fun j hj=>?_) (fun j x Su=>?_)⟩
 ·simp at hj h1
  have:j<dn.size:=by omega
  simp[this]
 ·simp only[List.getElem?_map,Option.map_eq_some_iff]at Su
  obtain⟨y,hy,rfl⟩:=Su
  exact h2 j y hy
theorem RT {f:Nat} {first dn:Array Operand} {BM:List O} (E:cX P w D ι env a) (ho:o.op=.makeFunc (.func f) first dn) (hf:dn= #[]) (hc:gj P f=true) (hx:first.toList.mapM (cO P)=some BM):oL P a o w D ι (.vh f (BM.map (dd env))):=by
 subst hf
 obtain⟨h1,h2⟩:=Fk E hx
 refine⟨.func (.func f) (first.map a.eval) #[],by simp only[execOp,ho,Instr.makeFunc,Sem.run_bind,Sem.run_pure,Result.andThen_ok];simp,.vh _ _ _ (fun j=>(first.toList.map a.eval).getD j undef) hc (by simpa using h1) (fun j hj=>?_) (fun j x Su=>?_)⟩
 ·simp at hj h1
  have:j<first.size:=by omega
  simp[this]
 ·simp only[List.getElem?_map,Option.map_eq_some_iff]at Su
  obtain⟨y,hy,rfl⟩:=Su
  exact h2 j y hy
end
end Go.Proofs.YtgoljkjaameagaaGreat.V

namespace Go.Proofs.YtgoljkjaameagaaGreat.V
open Go.RowKit
variable {P:Program} {w w':World} {D D':Nat->Prop} {ι ι':Names}
def Mk (P:Program) (a:Act) (o:Oper) (w:World) (D:Nat->Prop) (ι:Names) (id:Id) (v:AV) (r:Row):Prop:=
 ∃u cells T,(execOp a.eval o).run P w=.ok (.value u) (w.alloc (.cells cells T))/\r.w=true/\r.rows.length*r.sz<=cells.size/\(∀cs∈r.rows,cs.length=r.sz)/\(∀cs∈r.rows,∀a∈cs,a.cell=true)/\
  (∀i j cs a,r.rows[i]? =some cs->cs[j]? =some a->∃x,cells[i*r.sz+j]? =some x/\dm P w D ι a x)/\∀ι':Names,ι' id=some ⟨w.heap.size,r.sz,cells.size,none⟩->dm P w D ι' v u
section
variable {g:Rows} {hs:Nat} {env:Env} {a:Act} {o:Oper} {id:Id} {v:AV}
theorem kL {vs:List Value} {cs:List K} (h:vs.mapM HY=some cs):fb P w D ι (cs.map K.av) vs.toArray:=by
 obtain⟨h1,h2⟩:=sG h
 refine⟨by simp[h1],fun j a ha=>?_⟩
 simp only[List.getElem?_map,Option.map_eq_some_iff]at ha
 obtain⟨c,hc,rfl⟩:=ha
 exact⟨c.val,by simpa using h2 j c hc,xp c⟩
theorem j8 {t:TypeId} {z:List K} (h:jN P t=some z):∃i v,P.info? t=some i/\i.zero=some v/\v.cells.size=i.size/\v.cells.toList.mapM HY=some z/\z.length=i.size:=by
 unfold jN at h
 split at h
 ·rename_i i hi
  split at h
  ·rename_i v hv
   split at h
   ·rename_i hs
    exact⟨i,v,hi,hv,hs,h,by rw[(sG h).1];simpa using hs⟩
   ·simp at h
  ·simp at h
 ·simp at h
theorem GK {cs:List AV} {cells:Array Value} (h:fb P w D ι cs cells):∀i j c a,[cs][i]? =some c->c[j]? =some a->∃x,cells[i*cs.length+j]? =some x/\dm P w D ι a x:=by
 intro i j c a hi hj
 cases i with
 |zero=>simp at hi;subst hi;simpa using h.2 j a hj
 |succ i=>simp at hi
theorem Un {t:TypeId} {z:List K} (ho:o.op=.alloc t) (hz:jN P t=some z):Mk P a o w D ι id (.ptr id 0 0) ⟨true,z.length,[z.map K.av]⟩:=by
 obtain⟨i,v,hi,hv,hs,hm,hl⟩:=j8 hz
 have hk:=kL (P:=P) (w:=w) (D:=D) (ι:=ι) hm
 refine⟨.pointer (some ⟨w.heap.size,0,none⟩),v.cells,t,?_,rfl,?_,?_,?_,?_,?_⟩
 ·simp only[execOp,ho,Instr.alloc,zeroValue,typeInfo,Sem.run_bind]
  simp[hi,hv,newVar,newRow]
 ·simp[hl,hs]
 ·intro cs dz;simp at dz;subst dz;simp
 ·intro cs dz x hx;simp at dz;subst dz
  obtain⟨c,_,rfl⟩:=List.mem_map.1 hx;exact c.nr
 ·have:=GK hk;simpa using this
 ·intro ι' hι
  have:=dm.ptr (P:=P) (w:=w) (D:=D) (ι:=ι') id 0 0 _ hι rfl
  simpa using this
theorem rJ {x:AV} {u:Value} (h:dm P w D ι x u) (hc:x.cells.all AV.cell=true):fb P w D ι x.cells u.cells:=by
 obtain⟨h1,f,h2,h3⟩:=h.cells hc
 exact⟨h1,fun j a ha=>⟨f j,h2 j (List.getElem?_eq_some_iff.1 ha).1,h3 j a ha⟩⟩
theorem Ul {t:TypeId} {x:Operand} {x':O} {cs:List AV} (E:cX P w D ι env a) (ho:o.op=.box t x) (hx:cO P x=some x') (hb:cG (dd env x')=some cs):Mk P a o w D ι id (.ptr id 0 0) ⟨true,cs.length,[cs]⟩:=by
 have hr:=dw E hx
 unfold cG at hb
 split at hb
 ·rename_i eh
  simp at hb;subst hb
  have hk:=rJ hr eh
  refine⟨.pointer (some ⟨w.heap.size,0,none⟩),(a.eval x).cells,t,?_,rfl,?_,?_,?_,?_,?_⟩
  ·simp only[execOp,ho,Instr.box,Sem.run_bind]
   simp[newVar,newRow]
  ·simp[hk.1]
  ·intro cs dz;simp at dz;subst dz;rfl
  ·intro cs dz y hy;simp at dz;subst dz
   exact List.all_eq_true.1 eh y hy
  ·exact GK hk
  ·intro ι' hι
   have:=dm.ptr (P:=P) (w:=w) (D:=D) (ι:=ι') id 0 0 _ hι rfl
   simpa using this
 ·simp at hb
theorem foldl_set:∀(vs:List Value) (n off:Nat) (cells:Array Value),off+n+vs.length<=cells.size->((vs.zipIdx n).foldl (fun cs (x:Value×Nat)=>cs.setIfInBounds (off+x.2) x.1) cells).size=cells.size/\
  ∀k,((vs.zipIdx n).foldl (fun cs (x:Value×Nat)=>cs.setIfInBounds (off+x.2) x.1) cells)[k]? =if off+n<=k/\k<off+n+vs.length then vs[k-(off+n)]? else cells[k]?
 |[],n,off,cells,_=>⟨rfl,fun k=>by simp;intro h1 h2;omega⟩
 |v::r,n,off,cells,h=>by
  simp only[List.length_cons]at h
  obtain⟨h1,h2⟩:=foldl_set r (n+1) off (cells.setIfInBounds (off+n) v) (by simp;omega)
  simp only[List.zipIdx_cons,List.foldl_cons]
  refine⟨by rw[h1];simp,fun k=>?_⟩
  rw[h2 k]
  simp only[List.length_cons]
  by_cases hk:k=off+n
  ·subst hk
   rw[if_neg (by omega),if_pos (by omega)]
   simp[show off+n<cells.size by omega]
  ·by_cases tr:off+n<=k/\k<off+n+(r.length+1)
   ·rw[if_pos (by omega),if_pos tr]
    have:k-(off+n)=(k-(off+(n+1)))+1:=by omega
    rw[this,List.getElem?_cons_succ]
   ·rw[if_neg (by omega),if_neg tr,Array.getElem?_setIfInBounds_ne (by omega)]
theorem wh (place:Nat->Option (Nat×Nat)):∀(ps:List (Nat×Value)) (qs:List (Nat×Nat×AV)) (cells:Array Value) (cs res:List AV),fb P w D ι cs cells->(∀a∈cs,a.cell=true)->ps.length=qs.length->
  (∀(k:Nat) i u o' n x,ps[k]? =some (i,u)->qs[k]? =some (o',n,x)->place i=some (o',n)/\dm P w D ι x u)->cz cs qs=some res->∃jt,Instr.fill place cells ps=some jt/\fb P w D ι res jt/\(∀a∈res,a.cell=true)/\res.length=cs.length:=by
 intro ps
 induction ps with
 |nil=>
  intro qs cells cs res hR hf hl _ hv
  cases qs with
  |nil=>simp[cz]at hv;subst hv;exact⟨cells,rfl,hR,hf,rfl⟩
  |cons q r=>simp at hl
 |cons p ps ih=>
  intro qs cells cs res hR hf hl hp hv
  cases qs with
  |nil=>simp at hl
  |cons q qs=>
   obtain⟨i,u⟩:=p
   obtain⟨oo,n,x⟩:=q
   obtain⟨lj,hr⟩:=hp 0 i u oo n x rfl rfl
   unfold cz at hv
   split at hv
   ·rename_i hc
    obtain⟨c1,c2,c3⟩:=hc
    have hk:=rJ hr c3
    have XG:u.cells.size=n:=by rw[hk.1,c1]
    have dz:cells.size=cs.length:=hR.1
    unfold Instr.fill
    simp only[lj]
    rw[if_neg (by rw[XG,dz];simp;omega)]
    obtain⟨s1,s2⟩:=foldl_set u.cells.toList 0 oo cells (by simp;omega)
    have e0:(u.cells.zipIdx.foldl (fun cs (x:Value×Nat)=>cs.setIfInBounds (oo+x.2) x.1) cells)=(u.cells.toList.zipIdx 0).foldl (fun cs (x:Value×Nat)=>cs.setIfInBounds (oo+x.2) x.1) cells:=by
     rw[<-Array.foldl_toList];simp
    have uL:=ih qs (u.cells.zipIdx.foldl (fun cs (x:Value×Nat)=>cs.setIfInBounds (oo+x.2) x.1) cells) (cs.take oo++x.cells++cs.drop (oo+n)) res ?_ ?_ (by simpa using hl) (fun k i u o' n x h1 h2=>hp (k+1) i u o' n x (by simpa using h1) (by simpa using h2)) hv
    ·obtain⟨jt,h1,h2,h3,h4⟩:=uL
     refine⟨jt,h1,h2,h3,?_⟩
     rw[h4];simp;omega
    ·rw[e0]
     refine⟨by rw[s1,dz];simp;omega,fun j a ha=>?_⟩
     rw[s2 j]
     simp only[Nat.add_zero,Array.length_toList]
     by_cases hj:oo<=j/\j<oo+u.cells.size
     ·rw[if_pos hj]
      rw[List.append_assoc,List.getElem?_append_right (by simp;omega),List.getElem?_append_left (by simp;omega)]at ha
      simp only[List.length_take]at ha
      rw[show min oo cs.length=oo by omega]at ha
      simpa using hk.2 _ _ ha
     ·rw[if_neg hj]
      by_cases QD:j<oo
      ·rw[List.append_assoc,List.getElem?_append_left (by simp;omega),List.getElem?_take,if_pos QD]at ha
       exact hR.2 _ _ ha
      ·rw[List.getElem?_append_right (by simp;omega)]at ha
       simp only[List.length_append,List.length_take,List.getElem?_drop]at ha
       rw[show oo+n+(j-(min oo cs.length+x.cells.length))=j by omega]at ha
       exact hR.2 _ _ ha
    ·intro b hb
     rcases List.mem_append.1 hb with hb|hb
     ·rcases List.mem_append.1 hb with hb|hb
      ·exact hf b (List.mem_of_mem_take hb)
      ·exact List.all_eq_true.1 c3 b hb
     ·exact hf b (List.mem_of_mem_drop hb)
   ·simp at hv
theorem yf {fs:List Field} (h:∀f∈fs,(P.info? f.type).isSome=true):∃AI,fs.mapM (fun f=>(P.info? f.type).map fun i=>(f.offset,i.size))=some AI/\∀(i:Nat) (f:Field) (n:Nat),fs[i]? =some f->ez P f.type=some n->AI[i]? =some (f.offset,n):=by
 induction fs with
 |nil=>exact⟨[],rfl,fun i f n h=>by simp at h⟩
 |cons f r ih=>
  obtain⟨q,h1,h2⟩:=ih (fun x hx=>h x (List.mem_cons_of_mem _ hx))
  obtain⟨i,hi⟩:=Option.isSome_iff_exists.1 (h f (by simp))
  refine⟨(f.offset,i.size)::q,by simp[hi,h1],fun k x n hk hn=>?_⟩
  cases k with
  |zero=>simp at hk;subst hk;simp[ez,hi]at hn;subst hn;rfl
  |succ k=>simp at hk ⊢;exact h2 k x n hk hn
theorem qQ {ps:List (Nat×Operand)} {l:List (Nat×O)} (E:cX P w D ι env a) (h:ps.mapM (fun(x:Nat×Operand)=>(cO P x.2).map (x.1,·))=some l):l.length=ps.length/\∀(k i:Nat) (y:O),l[k]? =some (i,y)->∃x,ps[k]? =some (i,x)/\cO P x=some y:=by
 induction ps generalizing l with
 |nil=>simp at h;subst h;simp
 |cons p r ih=>
  simp only[List.mapM_cons,Option.bind_eq_bind,Option.bind_eq_some_iff]at h
  obtain⟨c,hc,qw,dz,h⟩:=h
  simp at h;subst h
  obtain⟨h1,h2⟩:=ih dz
  simp only[Option.map_eq_some_iff]at hc
  obtain⟨y,hy,rfl⟩:=hc
  refine⟨by simp[h1],fun k i z hk=>?_⟩
  cases k with
  |zero=>simp at hk;obtain⟨rfl,rfl⟩:=hk;exact⟨p.2,rfl,hy⟩
  |succ k=>simp at hk ⊢;exact h2 k i z hk
theorem D6 {fs:Array Field} {l:List (Nat×O)} {q:List (Nat×Nat×O)} (h:td P fs l=some q):q.length=l.length/\∀(k oo n:Nat) (y:O),q[k]? =some (oo,n,y)->∃(i:Nat) (f:Field),l[k]? =some (i,y)/\fs[i]? =some f/\f.offset=oo/\ez P f.type=some n:=by
 induction l generalizing q with
 |nil=>simp[td]at h;subst h;simp
 |cons p r ih=>
  obtain⟨i,x⟩:=p
  unfold td at h
  split at h
  ·rename_i f hf
   split at h
   ·rename_i n hn
    simp only[Option.map_eq_some_iff]at h
    obtain⟨q',Nj,rfl⟩:=h
    obtain⟨h1,h2⟩:=ih Nj
    refine⟨by simp[h1],fun k oo m y hk=>?_⟩
    cases k with
    |zero=>simp at hk;obtain⟨rfl,rfl,rfl⟩:=hk;exact⟨i,f,rfl,hf,rfl,hn⟩
    |succ k=>simp only[List.getElem?_cons_succ]at hk ⊢;exact h2 k oo m y hk
   ·simp at h
  ·simp at h
theorem fb.agg {xs:List AV} {vs:Array Value} (h:fb P w D ι xs vs) (hf:∀a∈xs,a.cell=true):dm P w D ι (.agg xs) (.agg vs):=
 .agg xs vs (fun j=>vs.getD j undef) h.1 hf (fun j hj=>by
  have:j<vs.size:=by rw[h.1];exact hj
  simp[this]) (fun j a ha=>by
  obtain⟨u,h1,h2⟩:=h.2 j a ha
  simpa[Array.getD_eq_getD_getElem?,h1]using h2)
theorem OB {t:TypeId} {ps:Array (Nat×Operand)} {fs:Array Field} {z:List K} {l:List (Nat×O)} {q:List (Nat×Nat×O)} {cs:List AV} (E:cX P w D ι env a) (ho:o.op=.build t ps) (ht:P.underlying t=some (.struct fs)) (hz:jN P t=some z) (hl:tg P ps=some l)
  (sk:∀f∈fs.toList,(P.info? f.type).isSome=true) (hq:td P fs l=some q) (hv:cz (z.map K.av) (q.map fun(o,n,x)=>(o,n,dd env x))=some cs):oL P a o w D ι (.agg cs):=by
 obtain⟨it,zv,hi,wL,hs,hm,Gz⟩:=j8 hz
 obtain⟨AI,lj,Xx⟩:=yf sk
 have hk:=kL (P:=P) (w:=w) (D:=D) (ι:=ι) hm
 obtain⟨n1,r1⟩:=qQ E hl
 obtain⟨n2,r2⟩:=D6 hq
 obtain⟨jt,h1,h2,h3,_⟩:=wh (P:=P) (w:=w) (D:=D) (ι:=ι) (AI.toArray[·]?) (ps.toList.map fun(i,x)=>(i,a.eval x)) (q.map fun(o,n,x)=>(o,n,dd env x)) zv.cells _ cs (by simpa using hk)
  (fun b hb=>by obtain⟨c,_,rfl⟩:=List.mem_map.1 hb;exact c.nr) (by simp[n2,n1]) (fun k i u o' n x pc tr=>by
   simp only[List.getElem?_map,Option.map_eq_some_iff]at pc tr
   obtain⟨⟨i',x'⟩,hp,e1⟩:=pc
   obtain⟨⟨o2,n',y⟩,Nj,e2⟩:=tr
   simp only[Prod.mk.injEq]at e1 e2
   obtain⟨rfl,rfl⟩:=e1
   obtain⟨rfl,rfl,rfl⟩:=e2
   obtain⟨i2,f,Kj,hf,rfl,hn⟩:=r2 _ _ _ _ Nj
   obtain⟨x2,Bn,hc⟩:=r1 _ _ _ Kj
   rw[hp]at Bn
   simp only[Option.some.injEq,Prod.mk.injEq]at Bn
   obtain⟨rfl,rfl⟩:=Bn
   exact⟨by simpa using Xx _ _ _ (by simpa using hf) hn,dw E hc⟩) hv
 refine⟨.agg jt,?_,h2.agg h3⟩
 have hb:P.built t ((ps.map fun(i,x)=>(i,a.eval x)).toList)=some jt:=by
  unfold Program.built
  simp only[hi,ht,wL,lj]
  simpa using h1
 simp only[execOp,ho,Sem.run_bind,run_build w t _ _ hb,Result.andThen_ok,Sem.run_pure]
theorem LX {t e:TypeId} {len n:Nat} {ps:Array (Nat×Operand)} {z:List K} {l:List (Nat×O)} {cs:List AV} (E:cX P w D ι env a) (ho:o.op=.build t ps) (ht:P.underlying t=some (.array len e)) (hz:jN P t=some z) (hl:tg P ps=some l) (hn:ez P e=some n)
  (hv:cz (z.map K.av) ((l.map fun(x:Nat×O)=>(x.1*n,n,x.2)).map fun(o,n,x)=>(o,n,dd env x))=some cs):oL P a o w D ι (.agg cs):=by
 obtain⟨it,zv,hi,wL,hs,hm,Gz⟩:=j8 hz
 have hk:=kL (P:=P) (w:=w) (D:=D) (ι:=ι) hm
 obtain⟨n1,r1⟩:=qQ E hl
 obtain⟨ie,HL,fo⟩:∃ie,P.info? e=some ie/\ie.size=n:=by simpa[ez]using hn
 obtain⟨jt,h1,h2,h3,_⟩:=wh (P:=P) (w:=w) (D:=D) (ι:=ι) (fun i=>some (i*ie.size,ie.size)) (ps.toList.map fun(i,x)=>(i,a.eval x)) ((l.map fun(x:Nat×O)=>(x.1*n,n,x.2)).map fun(o,n,x)=>(o,n,dd env x)) zv.cells _ cs (by simpa using hk)
  (fun b hb=>by obtain⟨c,_,rfl⟩:=List.mem_map.1 hb;exact c.nr) (by simp[n1]) (fun k i u o' n' x pc tr=>by
   simp only[List.getElem?_map,Option.map_eq_some_iff]at pc tr
   obtain⟨⟨i',x'⟩,hp,e1⟩:=pc
   obtain⟨⟨o2,n2,y⟩,⟨⟨i2,y2⟩,Kj,e3⟩,e2⟩:=tr
   simp only[Prod.mk.injEq]at e1 e2 e3
   obtain⟨rfl,rfl⟩:=e1
   obtain⟨rfl,rfl,rfl⟩:=e2
   obtain⟨rfl,rfl,rfl⟩:=e3
   obtain⟨x2,Bn,hc⟩:=r1 _ _ _ Kj
   rw[hp]at Bn
   simp only[Option.some.injEq,Prod.mk.injEq]at Bn
   obtain⟨rfl,rfl⟩:=Bn
   exact⟨by rw[fo],dw E hc⟩) hv
 refine⟨.agg jt,?_,h2.agg h3⟩
 have hb:P.built t ((ps.map fun(i,x)=>(i,a.eval x)).toList)=some jt:=by
  unfold Program.built
  simp only[hi,ht,wL,HL]
  simpa using h1
 simp only[execOp,ho,Sem.run_bind,run_build w t _ _ hb,Result.andThen_ok,Sem.run_pure]
theorem wg:∀(vs:List AV) (sz i:Nat) (rs:List (List AV)) (cs:List AV),0<sz->cs.length=(i+vs.length)*sz->rowsOf sz vs=some rs->
  cz cs ((vs.zipIdx i).map fun(v,j)=>(j*sz,sz,v))=some (cs.take (i*sz)++rs.flatten)/\rs.length=vs.length/\(∀c∈rs,c.length=sz)/\∀c∈rs,∀x∈c,x.cell=true
 |[],sz,i,rs,cs,_,hl,h=>by
  simp[rowsOf]at h;subst h
  simp at hl
  simp[cz,List.take_of_length_le (show cs.length<=i*sz by omega)]
 |v::r,sz,i,rs,cs,fo,hl,h=>by
  simp only[rowsOf,Option.bind_eq_some_iff,Option.map_eq_some_iff]at h
  obtain⟨c,hc,rs',y4,rfl⟩:=h
  unfold rowOf at hc
  split at hc
  ·rename_i Ae
   simp at hc;subst hc
   obtain⟨qi,EC⟩:=Ae
   simp only[List.length_cons]at hl
   have hmul:(i+(r.length+1))*sz=i*sz+sz+r.length*sz:=by rw[Nat.add_mul,Nat.add_mul];omega
   have ih:=wg r sz (i+1) rs' (cs.take (i*sz)++v.cells++cs.drop (i*sz+sz)) fo (by
    simp[qi];rw[Nat.add_mul,Nat.add_mul];omega) y4
   refine⟨?_,by simp[ih.2.1],?_,?_⟩
   ·simp only[List.zipIdx_cons,List.map_cons,cz]
    rw[if_pos ⟨qi,by omega,EC⟩,ih.1]
    congr 1
    rw[List.flatten_cons,<-List.append_assoc]
    congr 1
    rw[Nat.add_mul,Nat.one_mul,List.take_append_of_le_length (by simp[qi];omega)]
    rw[List.take_of_length_le (by simp[qi];omega)]
   ·intro c' kG;rcases List.mem_cons.1 kG with rfl|kG
    ·exact qi
    ·exact ih.2.2.1 c' kG
   ·intro c' kG;rcases List.mem_cons.1 kG with rfl|kG
    ·exact List.all_eq_true.1 EC
    ·exact ih.2.2.2 c' kG
  ·simp at hc
theorem flat_get {α:Type} {oU:List (List α)} {sz:Nat} (h:∀cs∈oU,cs.length=sz) {i j:Nat} {cs:List α} {a:α} (hi:oU[i]? =some cs) (hj:cs[j]? =some a):oU.flatten[i*sz+j]? =some a:=by
 induction oU generalizing i with
 |nil=>simp at hi
 |cons c r ih=>
  have hc:c.length=sz:=h c (by simp)
  cases i with
  |zero=>
   simp at hi;subst hi
   have eo:=(List.getElem?_eq_some_iff.1 hj).1
   rw[List.flatten_cons,List.getElem?_append_left (by omega)];simpa using hj
  |succ i=>
   rw[List.flatten_cons,List.getElem?_append_right (by rw[hc,Nat.succ_mul];omega)]
   have:(i+1)*sz+j-c.length=i*sz+j:=by rw[hc,Nat.succ_mul];omega
   rw[this]
   exact ih (fun cs dz=>h cs (List.mem_cons_of_mem _ dz)) (by simpa using hi)
theorem wj {α:Type} {oU:List (List α)} {sz:Nat} (h:∀cs∈oU,cs.length=sz):oU.flatten.length=oU.length*sz:=by
 induction oU with
 |nil=>simp
 |cons c r ih=>
  rw[List.flatten_cons,List.length_append,h c (by simp),ih (fun cs dz=>h cs (List.mem_cons_of_mem _ dz)),List.length_cons,Nat.succ_mul];omega
theorem pG {zv:Value} {z:List K} {n:Nat} (hm:zv.cells.toList.mapM HY=some z) (jx:0<z.length):∀k,k<n->∃c,z[k % z.length]? =some c/\((Array.range n).map (zv.cells[· % zv.cells.size]!))[k]? =some c.val:=by
 intro k hk
 obtain⟨h1,h2⟩:=sG hm
 have fo:zv.cells.size=z.length:=by simpa using h1.symm
 have eo:k % z.length<z.length:=Nat.mod_lt _ jx
 refine⟨z[k % z.length],List.getElem?_eq_getElem eo,?_⟩
 have h3:=h2 _ _ (List.getElem?_eq_getElem eo)
 simp only[Array.getElem?_toList]at h3
 have Ci:k % z.length<zv.cells.size:=by rw[fo];exact eo
 rw[Array.getElem?_map,Array.getElem?_range,if_pos hk]
 simp only[Option.map_some]
 rw[fo,getElem!_pos zv.cells (k % z.length) Ci]
 rw[Array.getElem?_eq_getElem Ci]at h3
 exact h3
theorem KM {t e:TypeId} {len sz:Nat} {ps:Array (Nat×Operand)} {z:List K} {l:List (Nat×O)} {rs:List (List AV)} (E:cX P w D ι env a) (ho:o.op=.buildSlice t len ps) (ht:P.underlying t=some (.slice e)) (fo:ez P e=some (sz+1)) (hz:jN P e=some z)
  (hl:tg P ps=some l) (Nl:len*(sz+1)<=4096) (T5:l.map (·.1)=List.range len) (hv:rowsOf (sz+1) (l.map fun x=>dd env x.2)=some rs):Mk P a o w D ι id (.own id 0 len) ⟨true,sz+1,rs⟩:=by
 obtain⟨it,zv,hi,wL,hs,hm,Gz⟩:=j8 hz
 have jI:it.size=sz+1:=by simpa[ez,hi]using fo
 obtain⟨n1,r1⟩:=qQ E hl
 have I7:l.length=len:=by have:=congrArg List.length T5;simpa using this
 by_cases h0:len=0
 ·subst h0
  have O7:l=[]:=List.length_eq_zero_iff.1 I7
  subst O7
  simp[rowsOf]at hv;subst hv
  have Vv:ps= #[]:=by
   apply Array.ext';apply List.eq_nil_of_length_eq_zero;rw[<-n1];rfl
  subst Vv
  refine⟨.slice (some ⟨w.heap.size,0,none⟩) 0 0, #[],e,?_,rfl,by simp,by simp,by simp,fun i j cs x hi=>by simp at hi,fun ι' hι=>?_⟩
  ·simp[execOp,ho,Instr.buildSlice,run_underlying ht,sizeOf,typeInfo,hi,Instr.fill,newRow,Array.range_zero']
  ·exact .own _ 0 0 0 0 _ hι rfl (Nat.le_refl _) (.inl rfl) (by simp) (by simp[maxLen])
 ·have xU:fb P w D ι ((List.range (len*(sz+1))).map fun k=>(z.getD (k % z.length) .cj).av) ((Array.range (len*(sz+1))).map (zv.cells[· % zv.cells.size]!)):=by
   refine⟨by simp,fun j x hx=>?_⟩
   simp only[List.getElem?_map,Option.map_eq_some_iff]at hx
   obtain⟨k,hk,rfl⟩:=hx
   have kM:=(List.getElem?_eq_some_iff.1 hk).1
   simp at kM
   rw[List.getElem?_range kM]at hk
   injection hk with hk
   subst hk
   obtain⟨c,hc,Tw⟩:=pG hm (by rw[Gz,jI];omega) j kM
   exact⟨c.val,Tw,by rw[List.getD_eq_getElem?_getD,hc];exact xp c⟩
  obtain⟨f1,f2,f3,f4⟩:=wg (l.map fun x=>dd env x.2) (sz+1) 0 rs ((List.range (len*(sz+1))).map fun k=>(z.getD (k % z.length) .cj).av) (by omega) (by simp[I7]) hv
  obtain⟨jt,h1,h2,h3,h4⟩:=wh (P:=P) (w:=w) (D:=D) (ι:=ι) (fun i=>some (i*it.size,it.size)) (ps.toList.map fun(i,x)=>(i,a.eval x)) _ _ _ _ xU
   (fun b hb=>by obtain⟨c,_,rfl⟩:=List.mem_map.1 hb;exact K.nr _) (by simp[n1]) (fun k i u o' n x pc tr=>by
   simp only[List.getElem?_map,Option.map_eq_some_iff]at pc tr
   obtain⟨⟨i',x'⟩,hp,e1⟩:=pc
   obtain⟨⟨v2,j2⟩,Nj,e2⟩:=tr
   simp only[Prod.mk.injEq]at e1 e2
   obtain⟨rfl,rfl⟩:=e1
   obtain⟨rfl,rfl,rfl⟩:=e2
   rw[List.getElem?_zipIdx]at Nj
   simp only[List.getElem?_map,Option.map_map,Option.map_eq_some_iff,Function.comp_apply,Prod.mk.injEq,Nat.zero_add]at Nj
   obtain⟨⟨i2,y⟩,Kj,rfl,rfl⟩:=Nj
   obtain⟨x2,Bn,hc⟩:=r1 _ _ _ Kj
   rw[hp]at Bn
   simp only[Option.some.injEq,Prod.mk.injEq]at Bn
   obtain⟨rfl,rfl⟩:=Bn
   have u7:(l.map (·.1))[k]? =some i':=by rw[List.getElem?_map,Kj];rfl
   have kM:=(List.getElem?_eq_some_iff.1 u7).1
   rw[T5]at u7
   simp at kM
   rw[List.getElem?_range (by omega)]at u7
   injection u7 with u7
   subst u7
   exact⟨by rw[jI],dw E hc⟩) f1
  simp only[Nat.zero_mul,List.take_zero,List.nil_append,List.length_map]at h2 h3 h4 f2
  have dz:jt.size=len*(sz+1):=by rw[h2.1,h4];simp
  refine⟨.slice (some ⟨w.heap.size,0,none⟩) len len,jt,e,?_,rfl,?_,f3,f4,fun i j cs x rP hj=>h2.2 _ _ (flat_get f3 rP hj),fun ι' hι=>?_⟩
  ·have gp:=run_buildSlice (P:=P) w t e len (ps.map fun(i,x)=>(i,a.eval x)) jt it zv ht hi wL (by rw[jI];omega) (by rw[jI];exact Nat.mul_ne_zero h0 (by omega)) (by rw[<-jI]at h1;simpa using h1)
   simp only[execOp,ho,Sem.run_bind,gp,Result.andThen_ok,Sem.run_pure]
  ·dsimp only;rw[f2,I7,dz];exact Nat.le_refl _
  ·refine .own _ 0 len 0 len _ hι rfl (Nat.le_refl _) (.inr (by simp)) ?_ (by simp only[maxLen];have:=Nat.le_mul_of_pos_right len (show 0<sz+1 by omega);omega)
   dsimp only;rw[dz];simp
theorem Ic {t e:TypeId} {it:TypeInfo} {m:Nat} {z:List K} {l c:Operand} {l' c':O} {n:Nat} {r:Row} (E:cX P w D ι env a) (ho:o.op=.makeSlice t l c) (ht:P.underlying t=some (.slice e)) (fo:ez P e=some (m+1)) (hz:jN P e=some z) (Sd:P.info? e=some it) (hby:it.bytes<=32768)
  (hl:cO P l=some l') (hc:cO P c=some c') (hv:gy z (dd env l') (dd env c')=some (n,r)):Mk P a o w D ι id (.own id 0 n) r:=by
 obtain⟨it',zv,hi,wL,hs,hm,Gz⟩:=j8 hz
 rw[Sd]at hi;injection hi with hi;subst hi
 have jI:it.size=m+1:=by simpa[ez,Sd]using fo
 unfold gy at hv
 split at hv
 ·rename_i k1 ln k2 cn e1 e2
  split at hv
  ·rename_i hb
   obtain⟨b1,b2,b3⟩:=hb
   simp at hv
   obtain⟨rfl,rfl⟩:=hv
   have r1:=dB (e1▸dw E hl)
   have r2:=dB (e2▸dw E hc)
   unfold dy at b3
   have OZ:(it.bytes:Int)*cn<=281474976710656:=by
    have h1:(it.bytes:Int)<=32768:=by omega
    have h2:(it.bytes:Int)*cn<=32768*16777216:=Int.mul_le_mul h1 (by omega) (by omega) (by omega)
    omega
   have gp:=run_make (P:=P) w t e it zv ht Sd wL k1 k2 ln cn b1 b2 OZ (by omega)
   have ju:∀k,k<cn.toNat*it.size->∃x,z[k % z.length]? =some x/\(madeCells zv.cells (cn.toNat*it.size))[k]? =some x.val:=fun k hk=>pG hm (by rw[Gz,jI];omega) k hk
   refine⟨.slice (some ⟨w.heap.size,0,none⟩) ln.toNat cn.toNat,madeCells zv.cells (cn.toNat*it.size),e,by simp only[execOp,ho,r1,r2,Sem.run_bind,gp,Result.andThen_ok,Sem.run_pure],rfl,?_,?_,?_,?_,fun ι' hι=>?_⟩
   ·simp only[List.length_replicate,size_madeCells,Gz]
    exact Nat.mul_le_mul_right _ (by omega)
   ·intro cs dz
    have:=List.eq_of_mem_replicate dz
    subst this;simp
   ·intro cs dz x hx
    have:=List.eq_of_mem_replicate dz
    subst this
    obtain⟨c,_,rfl⟩:=List.mem_map.1 hx;exact c.nr
   ·intro i j cs x rP hj
    have mj:=(List.getElem?_eq_some_iff.1 rP).1
    have:=List.eq_of_mem_replicate (List.mem_of_getElem? rP)
    subst this
    simp only[List.length_replicate]at mj
    simp only[List.getElem?_map,Option.map_eq_some_iff]at hj
    obtain⟨q,hq,rfl⟩:=hj
    have gT:=(List.getElem?_eq_some_iff.1 hq).1
    dsimp only
    obtain⟨x,hx,Bn⟩:=ju (i*z.length+j) (by
     rw[<-Gz]
     calc i*z.length+j<i*z.length+z.length:=by omega
      _=(i+1)*z.length:=by rw[Nat.add_mul,Nat.one_mul]
      _<=cn.toNat*z.length:=Nat.mul_le_mul_right _ (by omega))
    rw[Nat.mul_comm i,Nat.mul_add_mod,Nat.mod_eq_of_lt gT,hq]at hx
    injection hx with hx;subst hx
    exact⟨_,by rw[Nat.mul_comm i]at Bn ⊢;exact Bn,xp q⟩
   ·refine .own _ 0 _ 0 _ _ hι rfl (by omega) (.inr (by simp)) ?_ (by simp only[maxLen];omega)
    dsimp only;rw[size_madeCells,Gz];simp
  ·simp at hv
 ·simp at hv
end
end Go.Proofs.YtgoljkjaameagaaGreat.V

namespace Go.Proofs.YtgoljkjaameagaaGreat.V
open Go.RowKit
variable {P:Program} {w w':World} {D D':Nat->Prop} {ι ι':Names}
def FW (P:Program) (k:TypeId) (m:MK):Prop:=
 (∃s,m=⟨false,[s]⟩/\fG P k=some s)∨
 (∃fs ts,m=⟨true,ts⟩/\P.underlying k=some (.struct fs)/\eP P 4 0 fs.toList=some ts/\P.stoodInHeld k=false/\∀f∈fs.toList,(fG P f.type).isSome=true)
theorem r5 {t:TypeId} {m:MK} {z:K} (h:tf P t=some (m,z)):∃k e i zv,P.underlying t=some (.map k e)/\P.info? e=some i/\i.zero=some zv/\HY zv=some z/\FW P k m:=by
 unfold tf at h
 split at h
 ·rename_i k e ht
  split at h
  ·rename_i zv s h1 h2 h3
   simp only[Option.map_eq_some_iff,Prod.mk.injEq]at h
   obtain⟨z',hz,rfl,rfl⟩:=h
   simp only[Option.bind_eq_some_iff]at h2
   obtain⟨i,hi,wL⟩:=h2
   exact⟨k,e,i,zv,ht,hi,wL,hz,.inl ⟨s,rfl,h3⟩⟩
  ·rename_i zv fs h1 h2 h3 h4
   split at h
   ·rename_i ts z' ym hz
    split at h
    ·rename_i hc
     simp only[Option.some.injEq,Prod.mk.injEq]at h
     obtain⟨rfl,rfl⟩:=h
     simp only[Option.bind_eq_some_iff]at h2
     obtain⟨i,hi,wL⟩:=h2
     simp only[Bool.not_eq_true',List.all_eq_true]at hc
     exact⟨k,e,i,zv,ht,hi,wL,hz,.inr ⟨fs,ts,rfl,h4,ym,hc.1,hc.2⟩⟩
    ·cases h
   ·cases h
  ·cases h
 ·cases h
theorem xu {t:TypeId} {s:TS} (ht:fG P t=some s) (em:Bool) (n:Nat) (v:Value):(Instr.checkKey em (n+1) t v).run P w=.ok () w:=by
 unfold Instr.checkKey
 cases s with
 |tB=>simp[run_underlying (pV ht)]
 |tS=>simp[run_underlying (pY ht)]
 |tI=>
  obtain⟨q,hq⟩:=pW ht
  simp[run_underlying hq]
theorem xw (em:Bool) (n:Nat) (vs:Array Value):∀(d:Nat) (fs:List Field) (off:Nat) (ts:List TS),eP P (d+1) off fs=some ts->(∀f∈fs,(fG P f.type).isSome=true)->off+ts.length<=vs.size->
  Sem.run P (forIn fs PUnit.unit fun f (_:PUnit)=>if f.name≠ "_" then do
    let x <-Go.part f.type vs f.offset
    Instr.checkKey em (n+1) f.type x
    pure (ForInStep.yield PUnit.unit)
   else pure (ForInStep.yield PUnit.unit)) w=Result.ok PUnit.unit w
 |d,[],off,ts,_,_,_=>by simp
 |d,f::r,off,ts,hf,hs,hl=>by
  rw[yQ]at hf
  split at hf
  ·rename_i hcond
   obtain⟨ho,ij⟩:=hcond
   split at hf
   ·rename_i s Sr
    split at hf
    ·rename_i uY
     simp only[Option.map_eq_some_iff]at hf
     obtain⟨Mj,hr,rfl⟩:=hf
     simp only[List.length_cons]at hl
     have ih:=xw em n vs d r (off+1) Mj hr (fun f hf=>hs f (List.mem_cons_of_mem _ hf)) (by omega)
     have hu:vs[off]? =some vs[off]:=by simp
     simp only[List.forIn_cons,Sem.run_bind,if_pos ij,ho,mW uY hu,Result.andThen_ok,xu Sr,Sem.run_pure]
     exact ih
    ·cases hf
   ·rename_i hn
    have:=hs f (by simp)
    rw[hn]at this;cases this
  ·cases hf
theorem Ft {k:TypeId} {m:MK} (hk:FW P k m) (em:Bool) (key:AV) (u:Value) (uY:key.isAgg=m.ka) (hlen:key.cells.length=m.ks) (hr:dm P w D ι key u):(Instr.checkKey em 10000 k u).run P w=.ok () w:=by
 rcases hk with⟨s,rfl,hs⟩|⟨fs,ts,rfl,sk,ym,eu,eh⟩
 ·exact xu hs em 9999 u
 ·cases key<;>simp[AV.isAgg]at uY
  rename_i cs
  obtain⟨vs,f,rfl,h1,_⟩:=iE hr
  unfold Instr.checkKey
  simp only[Sem.run_bind,run_underlying sk,Result.andThen_ok]
  rw[<-Array.forIn_toList]
  have h:=xw (P:=P) (w:=w) em 9998 vs 3 fs.toList 0 ts ym eh (by simp[AV.cells,MK.ks]at hlen;omega)
  rw[h]
  rfl
theorem Jv (a b:ByteArray):(a==b)=decide (a=b):=by
 by_cases h:a=b
 ·subst h;rw[decide_eq_true rfl]
  obtain⟨x⟩:=a
  show(x==x)=true
  simp
 ·rw[decide_eq_false h,Bool.eq_false_iff]
  intro hc
  obtain⟨x⟩:=a
  obtain⟨y⟩:=b
  exact h (by rw[show x=y by simpa using(show(x==y)=true from hc)])
theorem Ln {t:TypeId} {s:TS} {x y:AV} {u v:Value} {b:Bool} {d:TypeDesc} (ht:fG P t=some s) (hd:P.underlying t=some d) (he:fC s x y=some b) (hx:dm P w D ι x u) (hy:dm P w D ι y v):Instr.sameNow d u v=some b:=by
 unfold fC at he
 split at he
 ·rename_i k n k' n'
  split at he
  ·rename_i hk
   subst hk
   simp at he;subst he
   obtain⟨q,hq⟩:=pW ht
   rw[hd]at hq;injection hq with hq;subst hq
   rw[dB hx,dB hy]
   simp[Instr.sameNow]
   rfl
  ·cases he
 ·simp at he;subst he
  have hq:=pV ht
  rw[hd]at hq;injection hq with hq;subst hq
  rw[fu hx,fu hy];rfl
 ·rename_i a c
  simp at he;subst he
  have hq:=pY ht
  rw[hd]at hq;injection hq with hq;subst hq
  rw[fV hx,fV hy]
  simp only[Instr.sameNow,Jv]
 ·cases he
def Found (es:List MapEntry) (i:Nat) (r:Option Nat) (res:Option (Nat×Value)):Prop:=(r=none/\res=none)∨∃j e,r=some (i+j)/\es[j]? =some e/\res=some (i+j,e.val)
theorem wm {e:MapEntry} {es:List MapEntry} {i:Nat} {r:Option Nat} {res:Option (Nat×Value)} (h:Found es (i+1) r res):Found (e::es) i r res:=by
 rcases h with h|⟨j,x,h1,h2,h3⟩
 ·exact .inl h
 ·exact .inr ⟨j+1,x,by rw[h1];congr 1;omega,by simpa using h2,by rw[h3];congr 2;omega⟩
theorem BZ {t:TypeId} {s:TS} {d:TypeDesc} {x:AV} {u:Value} (ht:fG P t=some s) (hd:P.underlying t=some d) (hx:dm P w D ι x u):∀(rows:List (List AV)) (es:List MapEntry) (i:Nat) (r:Option Nat),es.length=rows.length->
  (∀(j:Nat) (cs:List AV),rows[j]? =some cs->∃(e:MapEntry) (kv:AV),es[j]? =some e/\cs.head? =some kv/\dm P w D ι kv e.key)->gr ⟨false,[s]⟩ [x] rows i=some r->∃res,Instr.findNow d u es i=some res/\Found es i r res
 |[],[],i,r,_,_,h=>by
  simp[gr]at h;subst h
  exact⟨none,rfl,.inl ⟨rfl,rfl⟩⟩
 |[],e::es,i,r,hl,_,h=>by simp at hl
 |cs::rows,[],i,r,hl,_,h=>by simp at hl
 |cs::rows,e::es,i,r,hl,hr,h=>by
  obtain⟨e',kv,Af,hk,gS⟩:=hr 0 cs rfl
  simp at Af;subst Af
  have dz:cs.take (MK.ks ⟨false,[s]⟩)=[kv]:=by
   cases cs with
   |nil=>simp at hk
   |cons a l=>simp at hk;subst hk;simp[MK.ks]
  unfold gr at h
  rw[dz]at h
  cases hq:fC s x kv with
  |none=>simp[eY,hq]at h
  |some b=>
   have hs:=Ln ht hd hq hx gS
   cases b with
   |true=>
    simp[eY,hq]at h;subst h
    exact⟨some (i,e.val),by simp[Instr.findNow,hs],.inr ⟨0,e,rfl,rfl,rfl⟩⟩
   |false=>
    simp[eY,hq]at h
    obtain⟨res,h1,h2⟩:=BZ ht hd hx rows es (i+1) r (by simpa using hl) (fun j cs hj=>hr (j+1) cs (by simpa using hj)) h
    exact⟨res,by simp[Instr.findNow,hs,h1],wm h2⟩
theorem qD {t:TypeId} {fs:Array Field} {ts:List TS} {xs ys:List AV} {vs us:Array Value} {b:Bool} (sk:P.underlying t=some (.struct fs)) (eu:P.stoodInHeld t=false) (ym:eP P 4 0 fs.toList=some ts) (hx:fb P w D ι xs vs) (hy:fb P w D ι ys us) (hv:eY ts xs ys=some b):(Op.equal t (.agg vs) (.agg us)).run P w=.ok b w:=by
 obtain⟨l1,l2⟩:=sb hv
 have q:=sM (w:=w) 4 fs.toList 0 ts ym 9998 (by omega) xs ys vs us b hx hy (by simpa[List.take_of_length_le,l1,l2]using hv)
 have O1:P.fieldsOf t=fs:=by simp[Program.fieldsOf,sk]
 unfold Op.equal
 rw[show Op.maxDepth=9999+1 from rfl,run_equalIn_struct w 9999 t _ _ (by rw[O1];exact sk) eu,O1,q]
theorem sK {cs:List AV} {v:Value} (h:dm P w D ι (.agg cs) v):∃vs,v=.agg vs/\fb P w D ι cs vs:=by
 obtain⟨vs,f,rfl,n1,_,f1,r1⟩:=iE h
 exact⟨vs,rfl,n1,fun j a ha=>⟨f j,f1 j (List.getElem?_eq_some_iff.1 ha).1,r1 j a ha⟩⟩
theorem BY {t:TypeId} {fs:Array Field} {ts:List TS} {xs:List AV} {vs:Array Value} (sk:P.underlying t=some (.struct fs)) (eu:P.stoodInHeld t=false) (ym:eP P 4 0 fs.toList=some ts) (hx:fb P w D ι xs vs):∀(rows:List (List AV)) (es:List MapEntry) (i:Nat) (r:Option Nat),es.length=rows.length->
  (∀(j:Nat) (cs:List AV),rows[j]? =some cs->∃e:MapEntry,es[j]? =some e/\dm P w D ι (.agg (cs.take ts.length)) e.key)->gr ⟨true,ts⟩ xs rows i=some r->∃res,(Instr.findAsking t (.agg vs) es i).run P w=.ok res w/\Found es i r res
 |[],[],i,r,_,_,h=>by
  simp[gr]at h;subst h
  exact⟨none,by simp[Instr.findAsking],.inl ⟨rfl,rfl⟩⟩
 |[],e::es,i,r,hl,_,h=>by simp at hl
 |cs::rows,[],i,r,hl,_,h=>by simp at hl
 |cs::rows,e::es,i,r,hl,hr,h=>by
  obtain⟨e',Af,gS⟩:=hr 0 cs rfl
  simp at Af;subst Af
  obtain⟨us,hk,hy⟩:=sK gS
  unfold gr at h
  simp only[MK.ks]at h
  split at h
  ·rename_i hq
   simp at h;subst h
   have q:=qD sk eu ym hx hy hq
   exact⟨some (i,e.val),by simp[Instr.findAsking,hk,q],.inr ⟨0,e,rfl,rfl,rfl⟩⟩
  ·rename_i hq
   have q:=qD sk eu ym hx hy hq
   obtain⟨res,h1,h2⟩:=BY sk eu ym hx rows es (i+1) r (by simpa using hl) (fun j cs hj=>hr (j+1) cs (by simpa using hj)) h
   exact⟨res,by simp[Instr.findAsking,hk,q,h1],wm h2⟩
  ·cases h
theorem wb {a:AV} (h:a.isAgg=false):a.cells=[a]:=by cases a<;>simp_all [AV.isAgg,AV.cells]
theorem wi {k:TypeId} {m:MK} {B:s4} {r:Row} (hk:FW P k m) {key:AV} {u:Value} (hr:dm P w D ι key u) {es:Array MapEntry} (fo:es.size=r.rows.length)
  (hM:∀(i:Nat) (cs:List AV),r.rows[i]? =some cs->∃(e:MapEntry) (kv vv:AV),es[i]? =some e/\part m.ka m.ks cs=some kv/\cs[m.ks]? =some vv/\dm P w D ι kv e.key/\dm P w D ι vv e.val) {fi:Option Nat} (h:gm m key r.rows=some fi):
  (∀em,(Instr.checkKey em 10000 k u).run P w=.ok () w)/\∃res,(Instr.findKey k u es.toList).run P w=.ok res w/\Found es.toList 0 fi res:=by
 unfold gm at h
 split at h
 ·rename_i hc
  obtain⟨c1,c2,c3⟩:=hc
  refine⟨fun em=>Ft hk em key u c1 c2 hr,?_⟩
  rcases hk with⟨s,rfl,hs⟩|⟨fs,ts,rfl,sk,ym,eu,eh⟩
  ·rw[wb c1]at h
   have hd:∃d,P.underlying k=some d:=by
    cases s with
    |tB=>exact⟨_,pV hs⟩
    |tS=>exact⟨_,pY hs⟩
    |tI=>obtain⟨q,hq⟩:=pW hs;exact⟨_,hq⟩
   obtain⟨d,hd⟩:=hd
   obtain⟨res,h1,h2⟩:=BZ hs hd hr r.rows es.toList 0 fi (by simpa using fo) (fun j cs hj=>by
    obtain⟨e,kv,vv,q1,q2,_,q4,_⟩:=hM j cs hj
    exact⟨e,kv,by simpa using q1,by simpa[part]using q2,q4⟩) h
   exact⟨res,by simp[Instr.findKey,run_underlying hd,h1],h2⟩
  ·cases key<;>simp[AV.isAgg]at c1
   rename_i cs
   obtain⟨vs,rfl,hL⟩:=sK hr
   obtain⟨res,h1,h2⟩:=BY sk eu ym hL r.rows es.toList 0 fi (by simpa using fo) (fun j cs hj=>by
    obtain⟨e,kv,vv,q1,q2,_,q4,_⟩:=hM j cs hj
    unfold part at q2
    simp only[if_true]at q2
    split at q2
    ·simp only[Option.some.injEq]at q2;subst q2
     exact⟨e,by simpa using q1,q4⟩
    ·cases q2) h
   exact⟨res,(run_findKey_eq w (by simp[sk]) _ _).trans h1,h2⟩
 ·cases h
section
variable {g:Rows} {hs:Nat} {env:Env} {a:Act} {o:Oper} {id:Id} {v:AV}
theorem AA {m:MK} {x:AV} {u:Value} {p:Id×Row} (S:gw P hs D ι g w) (hr:dm P w D ι x u) (h:dJ g m x=some p):∃B,u=.map (some B.b)/\g p.1=some p.2/\ι p.1=some B/\B.k=some (.map m)/\OJ P w D ι B m p.2:=by
 unfold dJ at h
 split at h
 ·rename_i i m'
  split at h
  ·rename_i hm
   subst hm
   simp only[Option.map_eq_some_iff]at h
   obtain⟨r,hg,rfl⟩:=h
   obtain⟨B,rfl,hB,hk⟩:=GL hr
   obtain⟨B',eb,R,_⟩:=S.row i r hg
   rw[hB]at eb;injection eb with eb;subst eb
   exact⟨B,rfl,hg,hB,hk,(R.map _ hk).2⟩
  ·cases h
 ·cases h
theorem RQ {t:TypeId} {x k:Operand} {ok:Bool} {m:MK} {z:K} {x' k':O} {mr:Option Row} (S:gw P hs D ι g w) (E:cX P w D ι env a) (ho:o.op=.lookup t x k ok) (hc:tf P t=some (m,z)) (hx:cO P x=some x') (hk:cO P k=some k')
  (hv:bw (.look m ok z) [dd env x',dd env k'] g id=some (v,mr)):mr=none/\oL P a o w D ι v:=by
 obtain⟨kt,e,i,zv,ht,hi,wL,Vp,hK⟩:=r5 hc
 simp only[bw,Option.bind_eq_some_iff,Option.map_eq_some_iff,Prod.mk.injEq]at hv
 obtain⟨p,hp,fi,Gp,y,hy,rfl,rfl⟩:=hv
 obtain⟨B,hu,hg,hB,uX,es,clock,hb,fo,hlen,hM⟩:=AA S (dw E hx) hp
 obtain⟨L5,res,hf,hF⟩:=wi (B:=B) hK (dw E hk) fo hM Gp
 have key:∃val,(match res with|some (_,v)=>(v,true)|none=>(zv,false))=(val,fi.isSome)/\dm P w D ι y val:=by
  rcases hF with⟨rfl,rfl⟩|⟨j,en,rfl,he,rfl⟩
  ·simp only[dM,Option.some.injEq]at hy;subst hy
   refine⟨zv,rfl,?_⟩
   rw[Ap Vp];exact xp z
  ·simp only[dM,Option.bind_eq_some_iff,Nat.zero_add]at hy
   obtain⟨cs,dz,hy⟩:=hy
   obtain⟨e',kv,vv,q1,_,q3,_,q5⟩:=hM _ cs dz
   rw[hy]at q3;injection q3 with q3;subst q3
   have:e'=en:=by
    have h1:es.toList[j]? =some e':=by simpa using q1
    rw[he]at h1;injection h1 with h1;exact h1.symm
   subst this
   exact⟨_,rfl,q5⟩
 obtain⟨val,tt,lN⟩:=key
 have eT:(getObj B.b).run P w=.ok (.map es clock) w:=MapKept.run_getObj_map hb
 have hz:(zeroValue e).run P w=.ok zv w:=by simp[zeroValue,typeInfo,hi,wL]
 refine⟨rfl,if ok then .tuple #[val,.bool fi.isSome]else val,?_,?_⟩
 ·simp only[execOp,ho,hu,Instr.lookup,Sem.run_bind,run_underlying ht,Result.andThen_ok,eT,Sem.run_pure,L5,hf]
  rcases hF with⟨rfl,rfl⟩|⟨j,en,rfl,he,rfl⟩
  ·simp only[Prod.mk.injEq]at tt
   simp[hz,tt.1]
  ·simp only[Prod.mk.injEq]at tt
   simp[tt.1]
 ·cases ok with
  |false=>exact lN
  |true=>
   refine .iA _ _ (fun j=>if j=0 then val else .bool fi.isSome) rfl (fun j hj=>?_) (fun j b hj=>?_)
   ·have:j=0∨j=1:=by simp at hj;omega
    rcases this with rfl|rfl<;>rfl
   ·match j,hj with
    |0,hj=>simp at hj;subst hj;exact lN
    |1,hj=>simp at hj;subst hj;exact .fa _ _ (.bool _)
    |j+2,hj=>simp at hj
theorem RU {t:TypeId} {x:Operand} {m:MK} {z:K} {x':O} {mr:Option Row} (S:gw P hs D ι g w) (E:cX P w D ι env a) (ho:o.op=.call {callee:=.builtin .len,args:= #[x],argTypes:= #[t]}) (hc:tf P t=some (m,z)) (hx:cO P x=some x')
  (hv:bw (.len m) [dd env x'] g id=some (v,mr)):mr=none/\oL P a o w D ι v:=by
 obtain⟨kt,e,i,zv,ht,hi,wL,Vp,hK⟩:=r5 hc
 simp only[bw,Option.map_eq_some_iff,Prod.mk.injEq]at hv
 obtain⟨p,hp,rfl,rfl⟩:=hv
 obtain⟨B,hu,hg,hB,uX,es,clock,hb,fo,hlen,hM⟩:=AA S (dw E hx) hp
 have eT:(getObj B.b).run P w=.ok (.map es clock) w:=MapKept.run_getObj_map hb
 refine⟨rfl,.int .i64 (es.size:Int),?_,by rw[fo];exact .fa _ _ (.int _ _)⟩
 simp only[execOp,ho,resolve,Sem.run_bind,Sem.run_pure,Result.andThen_ok,invoke,builtin,Array.map,hu]
 simp[Builtin.len_,run_underlying ht,goInt,hu,eT]
def MkM (P:Program) (a:Act) (o:Oper) (w:World) (id:Id) (v:AV) (r:Row):Prop:=
 ∃m,(execOp a.eval o).run P w=.ok (.value (.map (some w.heap.size))) (w.alloc (.map #[] 0))/\v=.map id m/\r=⟨true,m.mz,[]⟩
theorem Um {t:TypeId} {m:MK} (ho:o.op=.makeMap t none):MkM P a o w id (.map id m) ⟨true,m.mz,[]⟩:=by
 refine⟨m,?_,rfl,rfl⟩
 simp[execOp,ho,Instr.makeMap,go_sem]
def MkC (P:Program) (a:Act) (o:Oper) (w:World) (id:Id) (v:AV) (r:Row):Prop:=
 ∃n,(execOp a.eval o).run P w=.ok (.value (.chan (some w.heap.size))) (w.alloc (.chan n #[] false 0 0 false))/\v=.tj id/\r=⟨true,qY+n,[]⟩
theorem Rc {t e:TypeId} {x:Operand} {x':O} {dir:ChanDir} {i:TypeInfo} {n:Nat} (E:cX P w D ι env a) (ho:o.op=.makeChan t x) (ht:P.underlying t=some (.chan dir e)) (hi:P.info? e=some i) (hb:i.bytes<=32768) (hx:cO P x=some x') (hn:cQ (dd env x')=some n):MkC P a o w id (.tj id) ⟨true,qY+n,[]⟩:=by
 refine⟨n,?_,rfl,rfl⟩
 have hr:=dw E hx
 unfold cQ at hn
 split at hn
 ·rename_i k m hm
  rw[hm]at hr
  split at hn
  ·rename_i hc
   simp only[Option.some.injEq]at hn
   subst hn
   have Gr:((m.toNat:Nat):Int)=m:=by omega
   have eo:(i.bytes:Int)*(m.toNat:Nat)<=281474976710544:=by
    have h1:i.bytes*m.toNat<=32768*1048576:=Nat.mul_le_mul hb (by omega)
    have h2:((i.bytes*m.toNat:Nat):Int)<=281474976710544:=by omega
    rwa [Int.natCast_mul]at h2
   have h:=Conc.run_makeChan (P:=P) (w:=w) ht hi k m.toNat (by omega) eo
   rw[Gr]at h
   simp only[execOp,ho,dB hr,Sem.run_bind,h,Result.andThen_ok,Sem.run_pure]
  ·cases hn
 ·cases hn
theorem zP {x:AV} {u:Value} {i:Id} {r:Row} (S:gw P hs D ι g w) (hr:dm P w D ι x u) (hx:x=.tj i) (hg:g i=some r):∃B c,u=.chan (some B.b)/\ι i=some B/\B.k=some (.chan c)/\r.sz=qY+c/\Jf P w D ι B c r:=by
 subst hx
 obtain⟨B,c,rfl,hB,hk⟩:=Oc hr
 obtain⟨B',eb,R,_⟩:=S.row i r hg
 rw[hB]at eb;injection eb with eb;subst eb
 exact⟨B,c,rfl,hB,hk,R.chan c hk⟩
theorem RM {t e:TypeId} {dir:ChanDir} {x:Operand} {x':O} (S:gw P hs D ι g w) (E:cX P w D ι env a) (ho:o.op=.call {callee:=.builtin .len,args:= #[x],argTypes:= #[t]}) (ht:P.underlying t=some (.chan dir e)) (hx:cO P x=some x') (hv:cN g (dd env x')=some v):oL P a o w D ι v:=by
 have hr:=dw E hx
 unfold cN at hv
 split at hv
 ·rename_i i he
  simp only[Option.map_eq_some_iff]at hv
  obtain⟨r,hg,rfl⟩:=hv
  obtain⟨B,c,hu,hB,hk,fo,buf,s,q,hb,L4,_⟩:=zP S hr he hg
  have eT:(getObj B.b).run P w=.ok (.chan c buf false s q false) w:=by simp[getObj,Sem.run,hb]
  refine⟨.int .i64 (buf.size:Int),?_,by rw[L4];exact .fa _ _ (.int _ _)⟩
  simp only[execOp,ho,resolve,Sem.run_bind,Sem.run_pure,Result.andThen_ok,invoke,builtin,Array.map,hu]
  simp[Builtin.len_,run_underlying ht,goInt,hu,eT]
 ·cases hv
end
end Go.Proofs.YtgoljkjaameagaaGreat.V

namespace Go.Proofs.YtgoljkjaameagaaGreat.V
open Go.RowKit
variable {P:Program} {w w':World} {D D':Nat->Prop} {ι ι':Names}
def Mp (P:Program) (a:Act) (o:Oper) (w:World) (D:Nat->Prop) (ι:Names) (id:Id) (v:AV):Option Row->Prop
 |none=>oL P a o w D ι v
 |some r=>Mk P a o w D ι id v r∨MkM P a o w id v r∨MkC P a o w id v r
section
variable {g:Rows} {hs:Nat} {env:Env} {a:Act} {o:Oper} {id:Id} {v:AV}
theorem lU {x:Option AV} {mr:Option Row} (h:x.map (·,(none:Option Row))=some (v,mr)) (H:x=some v->oL P a o w D ι v):Mp P a o w D ι id v mr:=by
 cases x with
 |none=>simp at h
 |some y=>simp at h;obtain⟨rfl,rfl⟩:=h;exact H rfl
theorem Uv {neg:Bool} {t yt:TypeId} {x y:Operand} {vo:gK} {mr:Option Row} (ho:o.op=.binOp (if neg then .neq else .eql) t x y yt) (hc:te P neg t x y=some vo) (hq:eH vo (dd env) g id=some (v,mr)) (E:cX P w D ι env a):Mp P a o w D ι id v mr:=by
 unfold te at hc
 split at hc
 ·split at hc
  ·rename_i e ht
   simp only[Option.map_eq_some_iff]at hc
   obtain⟨x',hx,rfl⟩:=hc
   simp only[eH,dS,Bool.false_eq_true,if_false,Option.map_eq_some_iff,Prod.mk.injEq]at hq
   obtain⟨b,hb,rfl,rfl⟩:=hq
   exact RI E ho ht hx hb
  ·simp at hc
 ·split at hc
  ·rename_i ht
   simp only[Option.map_eq_some_iff]at hc
   obtain⟨x',hx,rfl⟩:=hc
   simp only[eH,dS,if_true,Option.map_eq_some_iff,Prod.mk.injEq]at hq
   obtain⟨b,hb,rfl,rfl⟩:=hq
   exact RH E ho ht hx hb
  ·simp at hc
 ·split at hc
  ·rename_i ht
   simp only[Option.map_eq_some_iff]at hc
   obtain⟨x',hx,rfl⟩:=hc
   simp only[eH,Option.map_eq_some_iff,Prod.mk.injEq]at hq
   obtain⟨b,hb,rfl,rfl⟩:=hq
   exact UM E ho ht hx hb
  ·simp at hc
 ·split at hc
  ·rename_i s hs
   simp only[Option.bind_eq_bind,Option.bind_eq_some_iff,Option.pure_def,Option.some.injEq]at hc
   obtain⟨x',hx,y',hy,rfl⟩:=hc
   simp only[eH,Option.map_eq_some_iff,Prod.mk.injEq]at hq
   obtain⟨b,hb,rfl,rfl⟩:=hq
   have Co:fG P t=some s:=by
    unfold V7 at hs
    split at hs
    ·rename_i s' h;simp at hs;subst hs;exact h
    ·split at hs
     ·split at hs
      ·simp at hs
      ·simp at hs
     ·simp at hs
   exact UN E ho Co hx hy hb
  ·rename_i ts hs
   simp only[Option.bind_eq_bind,Option.bind_eq_some_iff,Option.pure_def,Option.some.injEq]at hc
   obtain⟨x',hx,y',hy,rfl⟩:=hc
   simp only[eH]at hq
   split at hq
   ·rename_i xs ys h1 h2
    simp only[Option.map_eq_some_iff,Prod.mk.injEq]at hq
    obtain⟨b,hb,rfl,rfl⟩:=hq
    unfold V7 at hs
    split at hs
    ·simp at hs
    ·split at hs
     ·rename_i fs sk
      split at hs
      ·rename_i hg
       simp only[Option.map_eq_some_iff,VR.ag.injEq]at hs
       obtain⟨Mj,ym,rfl⟩:=hs
       simp only[Bool.and_eq_true,Bool.not_eq_true']at hg
       exact UL E ho sk hg.1 hg.2 ym hx hy h1 h2 hb
      ·simp at hs
     ·simp at hs
   ·simp at hq
  ·simp at hc
theorem Rj {c:Call} {vo:gK} {mr:Option Row} (ho:o.op=.call c) (hc:nW P c=some vo) (hq:eH vo (dd env) g id=some (v,mr)) (S:gw P hs D ι g w) (E:cX P w D ι env a):Mp P a o w D ι id v mr:=by
 unfold nW at hc
 split at hc
 ·rename_i kQ
  split at hc
  ·rename_i x t h1 h2
   have hce:c={callee:=.builtin .len,args:= #[x],argTypes:= #[t]}:=by
    obtain⟨a,b,c⟩:=c
    simp only at h1 h2 kQ
    subst kQ
    congr
    ·exact Array.ext' h1
    ·exact Array.ext' h2
   rw[hce]at ho
   split at hc
   ·rename_i e ht
    simp only[Option.map_eq_some_iff]at hc
    obtain⟨x',hx,rfl⟩:=hc
    simp only[eH,Option.map_eq_some_iff,Prod.mk.injEq]at hq
    obtain⟨n,hn,rfl,rfl⟩:=hq
    exact UO E ho ht hx hn
   ·rename_i ht
    simp only[Option.map_eq_some_iff]at hc
    obtain⟨x',hx,rfl⟩:=hc
    exact lU hq fun h=>RN E ho ht hx h
   ·split at hc
    ·rename_i m z x' hm hx
     simp only[Option.some.injEq]at hc
     subst hc
     obtain⟨rfl,h⟩:=RU (id:=id) S E ho hm hx hq
     exact h
    ·cases hc
   ·rename_i ht
    simp only[Option.map_eq_some_iff]at hc
    obtain⟨x',hx,rfl⟩:=hc
    exact lU hq fun h=>RM S E ho ht hx h
   ·simp at hc
  ·simp at hc
 ·split at hc
  ·split at hc
   ·split at hc
    ·split at hc
     ·simp only[Option.bind_eq_bind,Option.bind_eq_some_iff,Option.pure_def,Option.some.injEq]at hc
      obtain⟨x',hx,y',hy,rfl⟩:=hc
      simp[eH]at hq
     ·simp at hc
    ·simp at hc
   ·simp at hc
  ·simp at hc
 ·split at hc
  ·split at hc
   ·split at hc
    ·simp only[Option.map_eq_some_iff]at hc
     obtain⟨x',hx,rfl⟩:=hc
     simp[eH]at hq
    ·simp at hc
   ·simp at hc
  ·simp at hc
 ·split at hc
  ·simp only[Option.map_eq_some_iff]at hc
   obtain⟨x',hx,rfl⟩:=hc
   simp[eH]at hq
  ·simp at hc
 ·simp only[Option.map_eq_some_iff]at hc
  obtain⟨x',hx,rfl⟩:=hc
  simp[eH]at hq
 ·split at hc
  ·split at hc
   ·simp only[Option.some.injEq]at hc
    subst hc
    simp[eH]at hq
   ·cases hc
  ·cases hc
 ·split at hc
  ·split at hc
   ·split at hc
    ·simp only[Option.bind_eq_bind,Option.bind_eq_some_iff,Option.pure_def,Option.some.injEq]at hc
     obtain⟨x',hx,y',hy,rfl⟩:=hc
     simp[eH]at hq
    ·simp at hc
   ·simp at hc
  ·simp at hc
 ·simp at hc
theorem zt {vo:gK} {mr:Option Row} (hc:rN P o.op=some vo) (hq:eH vo (dd env) g id=some (v,mr)) (S:gw P hs D ι g w) (E:cX P w D ι env a):Mp P a o w D ι id v mr:=by
 unfold rN at hc
 split at hc
 ·rename_i ho
  simp only[Option.map_eq_some_iff]at hc
  obtain⟨x',hx,rfl⟩:=hc
  simp[eH]at hq;obtain⟨rfl,rfl⟩:=hq
  exact Pu E (.inl ho) hx
 ·rename_i ho
  simp only[Option.map_eq_some_iff]at hc
  obtain⟨x',hx,rfl⟩:=hc
  simp[eH]at hq;obtain⟨rfl,rfl⟩:=hq
  exact Pu E (.inr ho) hx
 ·rename_i ho
  simp only[Option.bind_eq_bind,Option.bind_eq_some_iff,Option.pure_def,Option.some.injEq]at hc
  obtain⟨c',h1,x',h2,y',h3,rfl⟩:=hc
  exact lU hq fun h=>RV E ho h1 h2 h3 h
 ·rename_i ho
  simp only[Option.map_eq_some_iff]at hc
  obtain⟨z,hz,rfl⟩:=hc
  simp only[eH,Option.some.injEq,Prod.mk.injEq]at hq
  obtain⟨rfl,rfl⟩:=hq
  exact .inl (Un ho hz)
 ·rename_i ho
  simp only[Option.map_eq_some_iff]at hc
  obtain⟨x',hx,rfl⟩:=hc
  simp only[eH,Option.map_eq_some_iff,Prod.mk.injEq]at hq
  obtain⟨cs,dz,rfl,rfl⟩:=hq
  exact .inl (Ul E ho hx dz)
 ·rename_i ho
  simp only[Option.bind_eq_bind,Option.bind_eq_some_iff,Option.pure_def,Option.some.injEq]at hc
  obtain⟨ag,h1,n,h2,x',h3,rfl⟩:=hc
  exact lU hq fun h=>RP S E ho h1 h2 h3 h
 ·rename_i ho
  simp only[Option.bind_eq_bind,Option.bind_eq_some_iff,Option.pure_def,Option.some.injEq]at hc
  obtain⟨n,h2,x',h3,y',h4,rfl⟩:=hc
  simp[eH]at hq
 ·rename_i ho
  simp only[Option.map_eq_some_iff]at hc
  obtain⟨x',hx,rfl⟩:=hc
  exact lU hq fun h=>UK E ho hx h
 ·rename_i op t x y yt ho
  unfold vU at hc
  split at hc
  ·exact Uv (neg:=false) ho hc hq E
  ·exact Uv (neg:=true) ho hc hq E
  ·simp only[Option.bind_eq_bind,Option.bind_eq_some_iff,Option.pure_def,Option.some.injEq]at hc
   obtain⟨x',h3,y',h4,rfl⟩:=hc
   exact lU hq fun h=>UR (left:=true) E ho h3 h4 h
  ·simp only[Option.bind_eq_bind,Option.bind_eq_some_iff,Option.pure_def,Option.some.injEq]at hc
   obtain⟨x',h3,y',h4,rfl⟩:=hc
   exact lU hq fun h=>UR (left:=false) E ho h3 h4 h
  ·rename_i n1 n2 n3 n4
   split at hc
   ·simp only[Option.bind_eq_bind,Option.bind_eq_some_iff,Option.pure_def,Option.some.injEq]at hc
    obtain⟨x',h3,y',h4,rfl⟩:=hc
    exact lU hq fun h=>UJ E ho n1 n2 h3 h4 h
   ·simp only[Option.bind_eq_bind,Option.bind_eq_some_iff,Option.pure_def,Option.some.injEq]at hc
    obtain⟨x',h3,y',h4,rfl⟩:=hc
    exact lU hq fun h=>RF E ho n1 n2 h3 h4 h
   ·simp at hc
 ·rename_i ho
  simp only[Option.map_eq_some_iff]at hc
  obtain⟨x',hx,rfl⟩:=hc
  exact lU hq fun h=>UQ E ho hx h
 ·rename_i ho
  simp only[Option.map_eq_some_iff]at hc
  obtain⟨x',hx,rfl⟩:=hc
  exact lU hq fun h=>UP E ho hx h
 ·rename_i ho
  split at hc
  ·rename_i q k h1 h2
   simp only[Option.map_eq_some_iff]at hc
   obtain⟨x',hx,rfl⟩:=hc
   exact lU hq fun h=>RG E ho h1 h2 hx h
  ·rename_i h1 h2
   simp only[Option.map_eq_some_iff]at hc
   obtain⟨x',hx,rfl⟩:=hc
   exact lU hq fun h=>by
    have hr:=dw E hx
    unfold bJ at h
    split at h
    ·rename_i s hb
     simp at h;subst h
     rw[hb]at hr
     exact⟨.string s,by simp only[execOp,ho,fV hr,convert,Sem.run_bind,run_underlying h1,run_underlying h2,Result.andThen_ok,Sem.run_pure],.fa _ _ (.str _)⟩
    ·simp at h
  ·simp at hc
 ·rename_i ho
  split at hc
  ·rename_i e ht
   simp only[Option.bind_eq_bind,Option.bind_eq_some_iff,Option.pure_def,Option.some.injEq]at hc
   obtain⟨n,h1,x',h2,lo,h3,hi,h4,rfl⟩:=hc
   exact lU hq fun h=>OF S E ho ht h1 h2 h3 h4 h
  ·rename_i ht
   simp only[Option.bind_eq_bind,Option.bind_eq_some_iff,Option.pure_def,Option.some.injEq]at hc
   obtain⟨x',h2,lo,h3,hi,h4,rfl⟩:=hc
   exact lU hq fun h=>LY E ho ht h2 h3 h4 h
  ·simp at hc
 ·rename_i ho
  split at hc
  ·rename_i fs sk
   split at hc
   ·rename_i f hf
    split at hc
    ·rename_i m hm
     simp only[Option.map_eq_some_iff]at hc
     obtain⟨x',hx,rfl⟩:=hc
     exact lU hq fun h=>OC E ho sk hf hm hx h
    ·simp at hc
   ·simp at hc
  ·simp at hc
 ·rename_i ho
  split at hc
  ·rename_i fs sk
   split at hc
   ·rename_i f hf
    simp only[Option.bind_eq_bind,Option.bind_eq_some_iff,Option.pure_def,Option.some.injEq]at hc
    obtain⟨ag,h1,n,h2,x',h3,rfl⟩:=hc
    exact lU hq fun h=>OD E ho sk hf h1 h2 h3 h
   ·simp at hc
  ·simp at hc
 ·rename_i ho
  split at hc
  ·rename_i e ht
   split at hc
   ·rename_i m hm
    simp only[Option.bind_eq_bind,Option.bind_eq_some_iff,Option.pure_def,Option.some.injEq]at hc
    obtain⟨x',h1,i',h2,rfl⟩:=hc
    exact lU hq fun h=>OE S E ho ht hm h1 h2 h
   ·simp at hc
  ·rename_i len e ht
   split at hc
   ·rename_i m hm
    simp only[Option.bind_eq_bind,Option.bind_eq_some_iff,Option.pure_def,Option.some.injEq]at hc
    obtain⟨x',h1,i',h2,rfl⟩:=hc
    exact lU hq fun h=>RJ E ho ht hm h1 h2 h
   ·simp at hc
  ·simp at hc
 ·rename_i ho
  split at hc
  ·rename_i ht
   simp only[Option.bind_eq_bind,Option.bind_eq_some_iff,Option.pure_def,Option.some.injEq]at hc
   obtain⟨x',h1,i',h2,rfl⟩:=hc
   exact lU hq fun h=>RL E ho ht h1 h2 h
  ·rename_i len e ht
   simp only[Option.bind_eq_bind,Option.bind_eq_some_iff,Option.pure_def,Option.some.injEq]at hc
   obtain⟨ag,h0,n,h1,x',h2,i',h3,rfl⟩:=hc
   exact lU hq fun h=>RK E ho ht h0 h1 h2 h3 h
  ·simp at hc
 ·rename_i ho
  simp only[Option.map_eq_some_iff]at hc
  obtain⟨x',hx,rfl⟩:=hc
  exact lU hq fun h=>I1 E ho hx h
 ·rename_i ho
  split at hc
  ·rename_i fs sk
   split at hc
   ·rename_i z l hz hl
    split at hc
    ·rename_i eh
     simp only[Option.map_eq_some_iff]at hc
     obtain⟨q,Nj,rfl⟩:=hc
     simp only[eH,Option.map_eq_some_iff,Prod.mk.injEq]at hq
     obtain⟨cs,dz,rfl,rfl⟩:=hq
     exact OB E ho sk hz hl (fun f hf=>by
      rw[Array.all_eq_true_iff_forall_mem]at eh
      exact eh f (Array.mem_toList_iff.1 hf)) Nj dz
    ·simp at hc
   ·simp at hc
  ·rename_i len e ht
   split at hc
   ·rename_i z l n hz hl hn
    simp only[Option.some.injEq]at hc
    subst hc
    simp only[eH,Option.map_eq_some_iff,Prod.mk.injEq]at hq
    obtain⟨cs,dz,rfl,rfl⟩:=hq
    exact LX E ho ht hz hl hn dz
   ·simp at hc
  ·simp at hc
 ·rename_i ho
  split at hc
  ·rename_i e ht
   split at hc
   ·rename_i sz z l h1 h2 h3
    split at hc
    ·rename_i hh
     simp only[Option.some.injEq]at hc
     subst hc
     simp only[eH,Option.map_eq_some_iff,Prod.mk.injEq]at hq
     obtain⟨rs,y4,rfl,rfl⟩:=hq
     exact .inl (KM E ho ht h1 h2 h3 hh.1 hh.2 (by rw[List.map_map]at y4;exact y4))
    ·simp at hc
   ·simp at hc
  ·simp at hc
 ·rename_i ho
  split at hc
  ·rename_i hh
   simp only[Option.map_eq_some_iff]at hc
   obtain⟨l,hl,rfl⟩:=hc
   simp[eH]at hq;obtain⟨rfl,rfl⟩:=hq
   exact RS E ho hh.1 hh.2 hl
  ·split at hc
   ·rename_i hh
    simp only[Option.map_eq_some_iff]at hc
    obtain⟨l,hl,rfl⟩:=hc
    simp[eH]at hq;obtain⟨rfl,rfl⟩:=hq
    exact RT E ho hh.1 hh.2 hl
   ·simp at hc
 ·rename_i ho
  split at hc
  ·rename_i e ht
   split at hc
   ·rename_i m z i h1 h2 h3
    split at hc
    ·rename_i hb
     simp only[Option.bind_eq_bind,Option.bind_eq_some_iff,Option.pure_def,Option.some.injEq]at hc
     obtain⟨l',h4,c',h5,rfl⟩:=hc
     simp only[eH,Option.map_eq_some_iff,Prod.mk.injEq]at hq
     obtain⟨⟨n,r⟩,hr,rfl,rfl⟩:=hq
     exact .inl (Ic E ho ht h1 h2 h3 hb h4 h5 hr)
    ·simp at hc
   ·simp at hc
  ·simp at hc
 ·rename_i ho
  exact Rj ho hc hq S E
 ·rename_i ho
  split at hc
  ·rename_i dir e ht
   split at hc
   ·rename_i i hi
    split at hc
    ·rename_i hb
     simp only[Option.map_eq_some_iff]at hc
     obtain⟨x',hx,rfl⟩:=hc
     simp only[eH,Option.map_eq_some_iff,Prod.mk.injEq]at hq
     obtain⟨n,hn,rfl,rfl⟩:=hq
     exact .inr (.inr (Rc E ho ht hi hb hx hn))
    ·cases hc
   ·cases hc
  ·cases hc
 ·simp only[Option.bind_eq_bind,Option.bind_eq_some_iff,Option.pure_def,Option.some.injEq]at hc
  obtain⟨x',_,y',_,rfl⟩:=hc
  simp[eH]at hq
 ·split at hc
  ·split at hc
   ·simp only[Option.map_eq_some_iff]at hc
    obtain⟨x',_,rfl⟩:=hc
    simp[eH]at hq
   ·cases hc
  ·cases hc
 ·rename_i ho
  split at hc
  ·rename_i m z hm
   simp only[Option.some.injEq]at hc
   subst hc
   simp only[eH,List.map_nil,bw,Option.some.injEq,Prod.mk.injEq]at hq
   obtain⟨rfl,rfl⟩:=hq
   exact .inr (.inl (Um ho))
  ·cases hc
 ·rename_i ho
  split at hc
  ·rename_i m z x' k' hm hx hk
   simp only[Option.some.injEq]at hc
   subst hc
   obtain⟨rfl,h⟩:=RQ (id:=id) S E ho hm hx hk hq
   exact h
  ·cases hc
 ·split at hc
  ·simp only[Option.some.injEq]at hc
   subst hc
   simp[eH]at hq
  ·cases hc
 ·split at hc
  ·simp only[Option.some.injEq]at hc
   subst hc
   simp[eH]at hq
  ·cases hc
 ·simp only[Option.some.injEq]at hc
  subst hc
  simp[eH]at hq
 ·simp only[Option.some.injEq]at hc
  subst hc
  simp[eH]at hq
 ·simp at hc
end
end Go.Proofs.YtgoljkjaameagaaGreat.V

namespace Go.Proofs.YtgoljkjaameagaaGreat.V
open Go.RowKit
variable {P:Program} {w w':World} {D D':Nat->Prop} {ι ι':Names}
def j7 (ι:Names) (id:Id) (B:s4):Names:=fun i=>if i=id then some B else ι i
theorem ew (ι:Names) (id:Id) (B:s4):j7 ι id B id=some B:=if_pos rfl
theorem fB {ι:Names} {id:Id} {B:s4} (h:ι id=none):∀i B',ι i=some B'->j7 ι id B i=some B':=fun i B' hi=>by
 have:i≠id:=by rintro rfl;rw[h]at hi;cases hi
 rw[j7,if_neg this];exact hi
theorem gG {ι:Names} {id i:Id} {B:s4} (h:i≠id):j7 ι id B i=ι i:=if_neg h
section
variable {g:Rows} {hs:Nat} {env:Env} {a:Act} {o:Oper} {id:Id} {v:AV}
theorem kK.frame {B:s4} {r:Row} (h:kK P w D ι B r) (hb:w'.heap[B.b]? =w.heap[B.b]?) (hr:∀a v,dm P w D ι a v->dm P w' D' ι' a v):kK P w' D' ι' B r:=
 ⟨h.sz,by obtain⟨c,T,h1,h2⟩:=h.vT;exact⟨c,T,hb.trans h1,h2⟩,h.fits,h.len,h.flat,fun i j cs a hi hj=>by
  obtain⟨v,h1,h2⟩:=h.at_ i j cs a hi hj
  exact⟨v,(World.cell?_of_block (a:=⟨B.b,i*r.sz+j,none⟩) hb).trans h1,hr _ _ h2⟩⟩
theorem im.frame {B:s4} {r:Row} (h:im P w D ι B r) (hb:w'.heap[B.b]? =w.heap[B.b]?) (hr:∀a v,dm P w D ι a v->dm P w' D' ι' a v):im P w' D' ι' B r:=
 ⟨h.sz,h.flat,fun hk=>(h.row hk).frame hb hr,fun m hm=>by
  obtain⟨h1,es,c,h2,h3,h5,h4⟩:=h.map m hm
  refine⟨h1,es,c,hb.trans h2,h3,h5,fun i cs hi=>?_⟩
  obtain⟨e,kv,vv,q1,q2,q3,q4,q5⟩:=h4 i cs hi
  exact⟨e,kv,vv,q1,q2,q3,hr _ _ q4,hr _ _ q5⟩,fun c hc=>by
  obtain⟨h1,buf,s,q,h2,h3,h4⟩:=h.chan c hc
  refine⟨h1,buf,s,q,hb.trans h2,h3,fun i cs hi=>?_⟩
  obtain⟨a,u,q1,q2,q3⟩:=h4 i cs hi
  exact⟨a,u,q1,q2,hr _ _ q3⟩⟩
theorem gw.kill (S:gw P hs D ι g w) (i:Id):gw P hs D ι (bY g i) w:=by
 refine⟨S.lo,S.dead,fun id r h=>?_,fun id lk r r' B B' h h' hw hB eb hb=>?_⟩
 ·unfold bY at h;split at h
  ·cases h
  ·exact S.row id r h
 ·unfold bY at h h'
  split at h
  ·cases h
  ·split at h'
   ·cases h'
   ·exact S.inj id lk r r' B B' h h' hw hB eb hb
theorem gw.sub {g':Rows} (S:gw P hs D ι g w) (h:∀id r,g' id=some r->g id=some r):gw P hs D ι g' w:=
 ⟨S.lo,S.dead,fun id r hr=>S.row id r (h id r hr),fun id lk r r' B B' h1 h2=>S.inj id lk r r' B B' (h _ _ h1) (h _ _ h2)⟩
theorem A6 {hid:List Nat} {n:Nat} {g:Rows}:∀id r,fD hid n g id=some r->g id=some r:=fun id r h=>by
 cases hid with
 |nil=>exact h
 |cons a l=>
  have e:fD (a::l) n g id=if (a::l).contains id.site=true/\id.br=n then none else g id:=rfl
  rw[e]at h
  by_cases hc:(a::l).contains id.site=true/\id.br=n
  ·rw[if_pos hc]at h;cases h
  ·rw[if_neg hc]at h;exact h
theorem gw.stay (S:gw P hs D ι g w) (hb:∀b,b<w.heap.size->w'.heap[b]? =w.heap[b]?) (hz:w.heap.size<=w'.heap.size) (hD:∀b,D b->D' b) (hD':∀b,D' b->b<w'.heap.size) (lh:∀b,D' b->D b∨w.heap.size<=b) (hι:∀id B,ι id=some B->ι' id=some B):gw P hs D' ι' g w':=by
 have hr:∀a v,dm P w D ι a v->dm P w' D' ι' a v:=fun a v h=>h.frame (fun b hd=>hb b (S.dead b hd)) hD hι
 have lt:∀{id r B},g id=some r->ι id=some B->B.b<w.heap.size:=fun {id r B} h hB=>by
  obtain⟨B',eb,R,_⟩:=S.row id r h
  rw[hB]at eb;injection eb with eb;subst eb
  exact R.lt
 refine⟨Nat.le_trans S.lo hz,hD',fun id r h=>?_,fun id lk r r' B B' h h' hw hB eb he=>?_⟩
 ·obtain⟨B,hB,R,h1,h2⟩:=S.row id r h
  exact⟨B,hι _ _ hB,R.frame (hb _ (lt h hB)) hr,h1,fun hw hd=>by
   rcases lh _ hd with hd|hd
   ·exact h2 hw hd
   ·have:=lt h hB;omega⟩
 ·obtain⟨C,hC,_⟩:=S.row id r h
  obtain⟨C',Ac,_⟩:=S.row lk r' h'
  have e1:=hι _ _ hC
  have e2:=hι _ _ Ac
  rw[hB]at e1;injection e1 with e1;subst e1
  rw[eb]at e2;injection e2 with e2;subst e2
  exact S.inj id lk r r' _ _ h h' hw hC Ac he
theorem Step.stay (S:gw P hs D ι g w) (hb:∀b,b<w.heap.size->w'.heap[b]? =w.heap[b]?) (hz:w.heap.size<=w'.heap.size) (e1:w'.os=w.os) (e2:w'.tape=w.tape) (e3:w'.output=w.output) (hD:∀b,D b->D' b) (lh:∀b,D' b->D b∨w.heap.size<=b) (hι:∀id B,ι id=some B->ι' id=some B):Step hs D ι w D' ι' w':=
 ⟨⟨e1,e2,e3,hz,fun k hk=>hb k (Nat.lt_of_lt_of_le hk S.lo)⟩,fun b hd=>hb b (S.dead b hd),hD,hι,fun b h=>(lh b h).imp_right (Nat.le_trans S.lo)⟩
theorem gw.alloc (S:gw P hs D ι g w) {cells:Array Value} {T:TypeId} {r:Row} (hh:w'.heap=w.heap.push (.cells cells T (0,0))) (hn:ι id=none) (hw:r.w=true) (h1:r.rows.length*r.sz<=cells.size) (h2:∀cs∈r.rows,cs.length=r.sz) (h3:∀cs∈r.rows,∀a∈cs,a.cell=true)
  (h4:∀i j cs a,r.rows[i]? =some cs->cs[j]? =some a->∃x,cells[i*r.sz+j]? =some x/\dm P w D ι a x):gw P hs D (j7 ι id ⟨w.heap.size,r.sz,cells.size,none⟩) (bL g id r) w':=by
 have hb:∀b,b<w.heap.size->w'.heap[b]? =w.heap[b]? :=fun b eo=>by rw[hh,Array.getElem?_push,if_neg (by omega)]
 have hz:w.heap.size<=w'.heap.size:=by rw[hh];simp
 have S':=S.stay (D':=D) (ι':=j7 ι id ⟨w.heap.size,r.sz,cells.size,none⟩) hb hz (fun _ h=>h) (fun b hd=>Nat.lt_of_lt_of_le (S.dead b hd) hz) (fun _ h=>.inl h) (fB hn)
 have hr:∀a v,dm P w D ι a v->dm P w' D (j7 ι id ⟨w.heap.size,r.sz,cells.size,none⟩) a v:=fun a v h=>h.frame (fun b hd=>hb b (S.dead b hd)) (fun _ h=>h) (fB hn)
 have lh:w'.heap[w.heap.size]? =some (.cells cells T (0,0)):=by rw[hh];simp
 have gone:g id=none:=by
  cases hg:g id with
  |none=>rfl
  |some q=>
   obtain⟨B,hB,_⟩:=S.row id q hg
   rw[hn]at hB;cases hB
 have lt:∀{i q B},g i=some q->ι i=some B->B.b<w.heap.size:=fun {i q B} h hB=>by
  obtain⟨B',eb,R,_⟩:=S.row i q h
  rw[hB]at eb;injection eb with eb;subst eb
  exact R.lt
 refine⟨S'.lo,S'.dead,fun i q h=>?_,fun i i' q q' B B' h h' T3 hB eb he=>?_⟩
 ·unfold bL at h
  split at h
  ·rename_i e
   subst e
   injection h with h;subst h
   refine⟨_,ew _ _ _,kK.obj ⟨rfl,⟨cells,T,lh,rfl⟩,h1,h2,h3,fun k j cs a hk hj=>?_⟩ rfl,fun _=>S.lo,fun _ hd=>?_⟩
   ·obtain⟨x,hx,hrx⟩:=h4 k j cs a hk hj
    exact⟨x,by simp[World.cell?,lh,hx],hr _ _ hrx⟩
   ·have:=S.dead _ hd;simp at this
  ·exact S'.row i q h
 ·unfold bL at h h'
  split at h
  ·rename_i e
   split at h'
   ·rename_i e';exact e.trans e'.symm
   ·exfalso
    rename_i e'
    subst e
    rw[ew]at hB;injection hB with hB;subst hB
    rw[gG e']at eb
    have:=lt h' eb
    simp at he;omega
  ·rename_i e
   split at h'
   ·exfalso
    rename_i e'
    subst e'
    rw[ew]at eb;injection eb with eb;subst eb
    rw[gG e]at hB
    have:=lt h hB
    simp at he;omega
   ·exact S'.inj i i' q q' B B' h h' T3 hB eb he
theorem gw.put (S:gw P hs D ι g w) {r r':Row} {B:s4} {cur cur':Array Value} {T:TypeId} (hid:g id=some r) (hw:r.w=true) (hB:ι id=some B) (hblk:w.heap[B.b]? =some (.cells cur T (0,0))) (fo:cur'.size=cur.size)
  (h0:r'.w=true) (h1:r'.sz=r.sz) (h2:r'.rows.length*r'.sz<=B.C) (h3:∀cs∈r'.rows,cs.length=r'.sz) (h4:∀cs∈r'.rows,∀a∈cs,a.cell=true)
  (h5:∀i j cs a,r'.rows[i]? =some cs->cs[j]? =some a->∃v,cur'[i*r.sz+j]? =some v/\dm P w D ι a v):gw P hs D ι (bL g id r') (w.setRow B.b cur')/\Step hs D ι w D ι (w.setRow B.b cur'):=by
 obtain⟨B0,xR,RO,jQ,lg⟩:=S.row id r hid
 rw[hB]at xR;injection xR with xR;subst xR
 have ue:=RO.NV hblk
 have R:=RO.row ue
 have hd:∀b,D b->(w.setRow B.b cur').heap[b]? =w.heap[b]? :=fun b hb=>setRow_other w B.b b cur' (by rintro rfl;exact lg hw hb)
 have hr:∀a v,dm P w D ι a v->dm P (w.setRow B.b cur') D ι a v:=fun a v h=>h.frame hd (fun _ h=>h) (fun _ _ h=>h)
 have hC:cur.size=B.C:=by
  obtain⟨c,T',h1,h2⟩:=R.vT
  rw[hblk]at h1;injection h1 with h1;injection h1 with h1 S9;subst h1;exact h2
 refine⟨⟨by simpa using S.lo,fun b hb=>by simpa using S.dead b hb,fun i q h=>?_,fun i i' q q' C C' h h' T3 hC Ac he=>?_⟩,⟨⟨by simp,by simp,by simp,by simp,fun k hk=>setRow_other w B.b k cur' (by have:=jQ hw;omega)⟩,hd,fun _ h=>h,fun _ _ h=>h,fun _ h=>.inl h⟩⟩
 ·unfold bL at h
  split at h
  ·rename_i e
   subst e
   injection h with h;subst h
   refine⟨B,hB,kK.obj ⟨by rw[h1];exact R.sz,⟨cur',T,setRow_heap w B.b cur cur' T _ hblk,by rw[fo];exact hC⟩,h2,h3,h4,fun k j cs a hk hj=>?_⟩ ue,fun _=>jQ hw,fun _=>lg hw⟩
   obtain⟨v,hv,lN⟩:=h5 k j cs a hk hj
   exact⟨v,by rw[cell_setRow_same w B.b _ cur cur' T _ hblk,h1];exact hv,hr _ _ lN⟩
  ·rename_i e
   obtain⟨C,hC,RC,k1,k2⟩:=S.row i q h
   refine⟨C,hC,RC.frame (setRow_other w B.b C.b cur' (fun OZ=>e ?_)) hr,k1,k2⟩
   exact(S.inj id i r q B C hid h hw hB hC OZ.symm).symm
 ·unfold bL at h h'
  have get:∀j p,(if j=id then some r' else g j)=some p->∃p0,g j=some p0/\(p.w=true->p0.w=true):=fun j p hp=>by
   split at hp
   ·rename_i e;subst e;injection hp with hp;subst hp;exact⟨r,hid,fun _=>hw⟩
   ·exact⟨p,hp,fun h=>h⟩
  obtain⟨p,hp,Sm⟩:=get _ _ h
  obtain⟨p',QO,_⟩:=get _ _ h'
  exact S.inj i i' p p' C C' hp QO (Sm T3) hC Ac he
theorem gw.rename (S:gw P hs D ι g w) {i:Id} {r:Row} {B:s4} (hi:g i=some r) (hw:r.w=true) (hB:ι i=some B) (hn:ι id=none):gw P hs D (j7 ι id B) (bL (bY g i) id r) w:=by
 have S':=S.stay (w':=w) (D':=D) (ι':=j7 ι id B) (fun _ _=>rfl) (Nat.le_refl _) (fun _ h=>h) S.dead (fun _ h=>.inl h) (fB hn)
 have ij:i≠id:=by rintro rfl;rw[hn]at hB;cases hB
 obtain⟨B1,Bf,R,k1,k2⟩:=S'.row i r hi
 rw[gG ij,hB]at Bf;injection Bf with Bf;subst Bf
 have get:∀j p,bL (bY g i) id r j=some p->(j=id/\p=r)∨(j≠id/\j≠i/\g j=some p):=fun j p hp=>by
  unfold bL bY at hp
  split at hp
  ·rename_i e;injection hp with hp;exact .inl ⟨e,hp.symm⟩
  ·rename_i e
   split at hp
   ·cases hp
   ·rename_i e';exact .inr ⟨e,e',hp⟩
 refine⟨S.lo,S.dead,fun j p h=>?_,fun j j' p p' C C' h h' Sm hC Ac he=>?_⟩
 ·rcases get j p h with⟨rfl,rfl⟩|⟨_,_,hp⟩
  ·exact⟨B,ew _ _ _,R,k1,k2⟩
  ·exact S'.row j p hp
 ·rcases get j p h with⟨rfl,rfl⟩|⟨q1,q2,hp⟩
  ·rcases get j' p' h' with⟨rfl,rfl⟩|⟨q1',q2',QO⟩
   ·rfl
   ·exfalso
    rw[ew]at hC;injection hC with hC;subst hC
    rw[gG q1']at Ac
    exact q2' (S.inj i j' p p' B C' hi QO hw hB Ac he).symm
  ·rcases get j' p' h' with⟨rfl,rfl⟩|⟨q1',q2',QO⟩
   ·exfalso
    rw[ew]at Ac;injection Ac with Ac;subst Ac
    rw[gG q1]at hC
    exact q2 (S.inj j i p p' C B hp hi Sm hC hB he)
   ·rw[gG q1]at hC
    rw[gG q1']at Ac
    exact S.inj j j' p p' C C' hp QO Sm hC Ac he
def DL (P:Program) (hs:Nat) (a:Act) (o:Oper) (w:World) (D:Nat->Prop) (ι:Names) (id:Id) (v:AV) (g':Rows):Prop:=
 ∃u w' ι',((execOp a.eval o).run P w=.ok (.value u) w'∨(execOp a.eval o).run P w=.ok .skip w'/\u=undef)/\Step hs D ι w D ι' w'/\gw P hs D ι' g' w'/\dm P w' D ι' v u/\∀i,i≠id->ι' i=ι i
theorem C7 {xs:List AV} {vs:Array Value} (h:fb P w D ι xs vs) (hf:∀a∈xs,a.cell=true):∀v∈vs.toList,v.oneCell'=true:=by
 intro v hv
 obtain⟨j,hj,rfl⟩:=List.getElem_of_mem hv
 have Mb:j<xs.length:=by rw[<-h.1];simpa using hj
 obtain⟨u,hu,hr⟩:=h.2 j _ (List.getElem?_eq_getElem Mb)
 have hc:=hr.BN (hf _ (List.getElem_mem Mb))
 have:vs.toList[j]=u:=by
  have:vs.toList[j]? =some u:=by simpa using hu
  rw[List.getElem?_eq_getElem hj]at this;injection this
 rw[this]
 cases u<;>simp_all [Value.oneCell']
theorem jY {i j n m:Nat} (h:i<n) (hj:j<m):i*m+j<n*m:=by
 have:(i+1)*m<=n*m:=Nat.mul_le_mul_right _ h
 rw[Nat.add_mul,Nat.one_mul]at this;omega
theorem kK.cur {B:s4} {r:Row} (R:kK P w D ι B r):∃cur T,w.heap[B.b]? =some (.cells cur T (0,0))/\cur.size=B.C/\∀i j cs a,r.rows[i]? =some cs->cs[j]? =some a->∃v,cur[i*r.sz+j]? =some v/\dm P w D ι a v:=by
 obtain⟨cur,T,h1,h2⟩:=R.vT
 refine⟨cur,T,h1,h2,fun i j cs a hi hj=>?_⟩
 obtain⟨v,hv,hr⟩:=R.at_ i j cs a hi hj
 exact⟨v,by simpa[World.cell?,h1]using hv,hr⟩
theorem MG {t:TypeId} {n:Nat} {x y:Operand} {x' y':O} {g':Rows} (S:gw P hs D ι g w) (E:cX P w D ι env a) (ho:o.op=.store t x y) (hn:ez P t=some n) (hx:cO P x=some x') (hy:cO P y=some y')
  (hv:bI g n (dd env y') (dd env x')=some g'):DL P hs a o w D ι id .undef g':=by
 have rx:=dw E hx
 have ry:=dw E hy
 unfold bI at hv
 split at hv
 ·rename_i i k off hp
  rw[hp]at rx
  simp only[Option.bind_eq_some_iff]at hv
  obtain⟨r,hg,cs,dz,hv⟩:=hv
  split at hv
  ·rename_i hc
   obtain⟨c1,c2,c3,c4⟩:=hc
   simp at hv;subst hv
   obtain⟨B,he,hB,hk⟩:=iY rx
   obtain⟨B',eb,R,jQ,lg⟩:=S.row i r hg
   rw[hB]at eb;injection eb with eb;subst eb
   replace R:=R.row hk
   obtain⟨cur,T,hblk,hC,si⟩:=R.cur
   have hL:=rJ ry c3
   have h1:=C7 hL (List.all_eq_true.1 c3)
   have Gv:(a.eval y).cells.size=n:=by rw[hL.1,c2]
   have kM:=(List.getElem?_eq_some_iff.1 dz).1
   have hlen:=R.len cs (List.mem_of_getElem? dz)
   have hbound:k*r.sz+r.sz<=r.rows.length*r.sz:=by
    have:(k+1)*r.sz<=r.rows.length*r.sz:=Nat.mul_le_mul_right _ kM
    rwa [Nat.add_mul,Nat.one_mul]at this
   have hf:=R.fits
   have eu:=run_storeCells_at P B.b (k*B.sz+off) T (a.eval y).cells.toList 0 cur w hblk (by rw[R.sz];simp only[Array.length_toList];omega) h1
   simp only[Nat.add_zero,Array.length_toList]at eu
   have so:=S.put (r':={r with rows:=r.rows.set k (cF cs off (dd env y').cells)}) hg c1 hB hblk (cur':=(cur.toList.take (k*B.sz+off)++(a.eval y).cells.toList++cur.toList.drop (k*B.sz+off+(a.eval y).cells.size)).toArray)
    (by rw[R.sz];simp;omega) c1 rfl (by simpa using R.fits) (fun c Tp=>by
     rcases List.mem_or_eq_of_mem_set Tp with h|rfl
     ·exact R.len c h
     ·simp[cF];omega) (fun c Tp b hb=>by
     rcases List.mem_or_eq_of_mem_set Tp with h|rfl
     ·exact R.flat c h b hb
     ·unfold cF at hb
      rcases List.mem_append.1 hb with hb|hb
      ·rcases List.mem_append.1 hb with hb|hb
       ·exact R.flat cs (List.mem_of_getElem? dz) b (List.mem_of_mem_take hb)
       ·exact List.all_eq_true.1 c3 b hb
      ·exact R.flat cs (List.mem_of_getElem? dz) b (List.mem_of_mem_drop hb)) (fun i2 j c b uZ hj=>by
     rw[R.sz]
     simp only[List.getElem?_toArray]
     by_cases u7:i2=k
     ·subst u7
      rw[List.getElem?_set_self kM]at uZ
      injection uZ with uZ;subst uZ
      unfold cF at hj
      by_cases hjo:j<off
      ·rw[List.append_assoc,List.getElem?_append_left (by simp;omega),List.getElem?_take,if_pos hjo]at hj
       rw[List.append_assoc,List.getElem?_append_left (by simp;omega),List.getElem?_take,if_pos (by omega)]
       simpa using si _ _ _ _ dz hj
      ·by_cases gW:j<off+n
       ·rw[List.append_assoc,List.getElem?_append_right (by simp;omega),List.getElem?_append_left (by simp;omega)]at hj
        rw[List.append_assoc,List.getElem?_append_right (by simp;omega),List.getElem?_append_left (by simp;omega)]
        simp only[List.length_take]at hj ⊢
        rw[show j-min off cs.length=j-off by omega]at hj
        rw[show i2*r.sz+j-min (i2*r.sz+off) cur.toList.length=j-off by simp;omega]
        simpa using hL.2 _ _ hj
       ·rw[List.getElem?_append_right (by simp;omega)]at hj
        rw[List.getElem?_append_right (by simp;omega)]
        simp only[List.length_append,List.length_take,List.getElem?_drop,Array.length_toList]at hj ⊢
        rw[show off+(dd env y').cells.length+(j-(min off cs.length+(dd env y').cells.length))=j by omega]at hj
        rw[show i2*r.sz+off+(a.eval y).cells.size+(i2*r.sz+j-(min (i2*r.sz+off) cur.size+(a.eval y).cells.size))=i2*r.sz+j by omega]
        simpa using si _ _ _ _ dz hj
     ·rw[List.getElem?_set_ne (fun e=>u7 e.symm)]at uZ
      have hi2l:=(List.getElem?_eq_some_iff.1 uZ).1
      have gT:j<r.sz:=by rw[<-R.len c (List.mem_of_getElem? uZ)];exact(List.getElem?_eq_some_iff.1 hj).1
      have:=si _ _ _ _ uZ hj
      rcases Nat.lt_or_gt_of_ne u7 with eo|M3
      ·have h2:i2*r.sz+j<k*r.sz:=jY eo gT
       rw[List.append_assoc,List.getElem?_append_left (by simp;omega),List.getElem?_take,if_pos (by omega)]
       simpa using this
      ·have h2:k*r.sz+r.sz<=i2*r.sz:=by
        have:(k+1)*r.sz<=i2*r.sz:=Nat.mul_le_mul_right _ M3
        rwa [Nat.add_mul,Nat.one_mul]at this
       rw[List.getElem?_append_right (by simp;omega)]
       simp only[List.length_append,List.length_take,List.getElem?_drop,Array.length_toList]
       rw[show k*r.sz+off+(a.eval y).cells.size+(i2*r.sz+j-(min (k*r.sz+off) cur.size+(a.eval y).cells.size))=i2*r.sz+j by omega]
       simpa using this)
   refine⟨undef,_,ι,.inr ⟨?_,rfl⟩,so.2,so.1,dm.undef,fun _ _=>rfl⟩
   simp only[execOp,ho,he,Instr.storeAt,Instr.sureAddr,storeVar,Sem.run_bind,Sem.run_pure,Result.andThen_ok,run_sizeOf hn,Gv,ne_eq,not_true_eq_false,if_false,eu]
  ·simp at hv
 ·simp at hv
end
end Go.Proofs.YtgoljkjaameagaaGreat.V

namespace Go.Proofs.YtgoljkjaameagaaGreat.V
open Go.RowKit
variable {P:Program} {w w':World} {D D':Nat->Prop} {ι ι':Names}
section
variable {g:Rows} {hs:Nat} {env:Env} {a:Act} {o:Oper} {id:Id} {v:AV}
theorem nI (S:gw P hs D ι g w) {y:AV} {u:Value} {ys:List (List AV)} {sz:Nat} (hr:dm P w D ι y u) (hy:bq g y=some ys) (hl:∀c∈ys,c.length=sz) (hf:∀c∈ys,∀b∈c,b.cell=true):
  ∃A c,u=.slice A ys.length c/\(ys=[]∨∃b o,∃news:List Value,A=some ⟨b,o,none⟩/\news.length=ys.length*sz/\(∀j v,news[j]? =some v->w.cell? ⟨b,o+j,none⟩=some v)/\fb P w D ι ys.flatten news.toArray/\∀v∈news,v.oneCell'=true):=by
 have fin:∀b o,ys≠[]->(∀i j cs x,ys[i]? =some cs->cs[j]? =some x->∃v,w.cell? ⟨b,o+(i*sz+j),none⟩=some v/\dm P w D ι x v)->
   ∃news:List Value,news.length=ys.length*sz/\(∀j v,news[j]? =some v->w.cell? ⟨b,o+j,none⟩=some v)/\fb P w D ι ys.flatten news.toArray/\∀v∈news,v.oneCell'=true:=by
  intro b o _ h
  have hlen:=wj hl
  have at_:∀k,k<ys.length*sz->∃x,ys.flatten[k]? =some x/\∃v,w.cell? ⟨b,o+k,none⟩=some v/\dm P w D ι x v:=by
   intro k hk
   have jx:0<sz:=by
    rcases Nat.eq_zero_or_pos sz with h0|h0
    ·subst h0;simp at hk
    ·exact h0
   have hi:k / sz<ys.length:=Nat.div_lt_of_lt_mul (by rw[Nat.mul_comm];exact hk)
   have hj:k % sz<sz:=Nat.mod_lt _ jx
   have dz:=List.getElem?_eq_getElem hi
   have gT:k % sz<ys[k / sz].length:=by rw[hl _ (List.getElem_mem hi)];exact hj
   have hx:=List.getElem?_eq_getElem gT
   have e:k / sz*sz+k % sz=k:=by rw[Nat.mul_comm];exact Nat.div_add_mod _ _
   refine⟨_,by rw[<-flat_get hl dz hx,e],?_⟩
   obtain⟨v,hv,lN⟩:=h _ _ _ _ dz hx
   rw[e]at hv
   exact⟨v,hv,lN⟩
  let news:=(List.range (ys.length*sz)).map fun k=>(w.cell? ⟨b,o+k,none⟩).getD undef
  have hn:∀k,k<ys.length*sz->∀v,w.cell? ⟨b,o+k,none⟩=some v->news[k]? =some v:=fun k hk v hv=>by
   simp only[news,List.getElem?_map,List.getElem?_range hk,Option.map_some,hv,Option.getD_some]
  have hR:fb P w D ι ys.flatten news.toArray:=⟨by simp[news,hlen],fun j x hx=>by
   have gT:=(List.getElem?_eq_some_iff.1 hx).1
   rw[hlen]at gT
   obtain⟨x',ug,v,hv,lN⟩:=at_ j gT
   rw[hx]at ug;injection ug with ug;subst ug
   exact⟨v,by simpa using hn j gT v hv,lN⟩⟩
  refine⟨news,by simp[news],fun j v hj=>?_,hR,?_⟩
  ·have gT:j<ys.length*sz:=by have:=(List.getElem?_eq_some_iff.1 hj).1;simpa[news]using this
   obtain⟨x,_,v',ox,_⟩:=at_ j gT
   rw[hn j gT v' ox]at hj
   injection hj with hj
   rw[<-hj];exact ox
  ·have:=C7 hR (fun x hx=>by
    obtain⟨c,hc,XM⟩:=List.mem_flatten.1 hx
    exact hf c hc x XM)
   simpa using this
 unfold bq at hy
 split at hy
 ·simp at hy;subst hy
  exact⟨none,0,iS hr,.inl rfl⟩
 ·rename_i rows
  simp at hy;subst hy
  obtain⟨A,c,he,_,_,h3⟩:=xr hr
  refine⟨A,c,he,?_⟩
  rcases h3 with h3|⟨b,oo,sz',vs,rfl,hD,Md,_,hc,hi⟩
  ·exact .inl h3
  ·by_cases h0:rows=[]
   ·exact .inl h0
   ·have Co:sz'=sz:=by
     cases rows with
     |nil=>exact(h0 rfl).elim
     |cons c r=>rw[<-Md c (by simp),hl c (by simp)]
    subst Co
    obtain⟨news,q1,q2,q3,q4⟩:=fin b oo h0 (fun i j cs x dz hx=>⟨_,hc i j (List.getElem?_eq_some_iff.1 dz).1 (by rw[<-Md cs (List.mem_of_getElem? dz)];exact(List.getElem?_eq_some_iff.1 hx).1),.fa _ _ (hi i j cs x dz hx)⟩)
    exact .inr ⟨b,oo,news,rfl,q1,q2,q3,q4⟩
 ·rename_i i off len
  simp only[Option.bind_eq_some_iff]at hy
  obtain⟨r,hg,hy⟩:=hy
  split at hy
  ·rename_i hle
   simp at hy;subst hy
   obtain⟨oo,cap,B,he,hB,h1,h2,h3,h4,hk⟩:=iq hr
   obtain⟨B',eb,R,_,_⟩:=S.row i r hg
   rw[hB]at eb;injection eb with eb;subst eb
   replace R:=R.row hk
   have hlen:((r.rows.drop off).take len).length=len:=by simp;omega
   refine⟨some ⟨B.b,oo,none⟩,cap,by rw[hlen];exact he,?_⟩
   by_cases h0:(r.rows.drop off).take len=[]
   ·exact .inl h0
   ·have Co:r.sz=sz:=by
     cases hq:(r.rows.drop off).take len with
     |nil=>exact(h0 hq).elim
     |cons c q=>
      have hm:c∈(r.rows.drop off).take len:=by rw[hq];simp
      rw[<-hl c hm,R.len c (List.mem_of_mem_drop (List.mem_of_mem_take hm))]
    have hlp:0<len:=by rw[<-hlen];exact List.length_pos_iff.2 h0
    have Dt:oo=off*B.sz:=by rcases h2 with h2|h2<;>omega
    obtain⟨news,q1,q2,q3,q4⟩:=fin B.b oo h0 (fun i2 j cs x dz hx=>by
     rw[List.getElem?_take]at dz
     split at dz
     ·rw[List.getElem?_drop]at dz
      obtain⟨v,hv,lN⟩:=R.at_ _ _ _ _ dz hx
      refine⟨v,?_,lN⟩
      rw[Dt,R.sz,<-Co]
      rw[Nat.add_mul]at hv
      rw[<-Nat.add_assoc]
      exact hv
     ·simp at dz)
    exact .inr ⟨B.b,oo,news,rfl,q1,q2,q3,q4⟩
  ·simp at hy
 ·simp at hy
theorem pw {t ty e:TypeId} {i:TypeInfo} (ht:P.underlying t=some (.slice e)) (hi:P.info? e=some i) (A:Option Addr) (n c:Nat) (hn:n<=c) (B:Option Addr) (d:Nat):
  (Builtin.append_ #[t,t] ty #[.slice A n c,.slice B 0 d]).run P w=.ok (.slice A n c) w:=by
 have hf:(Builtin.firstCells i.size 0 (.slice B 0 d)).run P w=.ok #[] w:=by
  cases B<;>simp[Builtin.firstCells,loadCells,loadCellsFrom]
 cases A with
 |none=>simp[Builtin.append_,run_underlying ht,sizeOf,typeInfo,hi,Builtin.lenOf,hn,hf]
 |some A=>simp[Builtin.append_,run_underlying ht,sizeOf,typeInfo,hi,Builtin.lenOf,hn,hf,storeCells]
theorem qC {t ty e T:TypeId} {i:TypeInfo} (ht:P.underlying t=some (.slice e)) (hi:P.info? e=some i) (b oD AO:Nat) (cur:Array Value) (hg:w.heap[b]? =some (.cells cur T (0,0)))
  (x:Addr) (m c:Nat) (news:List Value) (hl:news.length=m*i.size) (TR:∀j u,news[j]? =some u->w.cell? (x.add j)=some u) (h1:∀u∈news,u.oneCell'=true)
  (eR:oD+m<=AO) (qj:oD*i.size+news.length<=cur.size):
  (Builtin.append_ #[t,t] ty #[.slice (some ⟨b,0,none⟩) oD AO,.slice (some x) m c]).run P w=
   .ok (.slice (some ⟨b,0,none⟩) (oD+m) AO) (w.setRow b (cur.toList.take (oD*i.size)++news++cur.toList.drop (oD*i.size+news.length)).toArray):=by
 have hf:=run_firstCells_some (P:=P) w i.size m x m c news hl TR
 have eu:=run_storeCells_at P b (oD*i.size) T news 0 cur w hg (by simpa using qj) h1
 simp only[Nat.add_zero]at eu
 simp[Builtin.append_,run_underlying ht,sizeOf,typeInfo,hi,Builtin.lenOf,eR,hf,kD,eu]
theorem Cb (w:World) (Il C2:Nat) (e:TypeId) (h:Il<=dy):Il<=grownCap w Il C2 e/\grownCap w Il C2 e<=maxLen:=by
 unfold dy at h
 simp only[grownCap,Question.cut,maxLen]
 have:=Nat.mod_lt (w.tape w.drawn (.appendCap Il C2 e)) (show 0<2 ^ 63-Il by omega)
 omega
theorem gx {x y:Operand} {t:TypeId} {u:Value} (ho:o.op=.call {callee:=.builtin .append,args:= #[x,y],argTypes:= #[t,t]}) (h:(Builtin.append_ #[t,t] o.type #[a.eval x,a.eval y]).run P w=.ok u w'):(execOp a.eval o).run P w=.ok (.value u) w':=by
 simp only[execOp,ho,resolve,Sem.run_bind,Sem.run_pure,Result.andThen_ok,invoke,builtin]
 simp only[List.map_toArray,List.map_cons,List.map_nil]
 rw[h];rfl
theorem Dd {T:TypeId} (S:gw P hs D ι g w) (cells:Array Value) (hn:ι id=none) (B:s4):Step hs D ι w D (j7 ι id B) (w.drew.alloc (.cells cells T)):=
 Step.stay S (fun k hk=>by show(w.heap.push _)[k]? = _;rw[Array.getElem?_push,if_neg (by omega)]) (by show _<=(w.heap.push _).size;simp) rfl rfl rfl (fun _ h=>h) (fun _ h=>.inl h) (fB hn)
theorem JL {x y:Operand} {x' y':O} {t e:TypeId} {m:Nat} {z:List K} {i:TypeInfo} {ys:List (List AV)} {g':Rows} (S:gw P hs D ι g w) (E:cX P w D ι env a) (hn:ι id=none) (ho:o.op=.call {callee:=.builtin .append,args:= #[x,y],argTypes:= #[t,t]})
  (ht:P.underlying t=some (.slice e)) (fo:ez P e=some (m+1)) (hz:jN P e=some z) (hi:P.info? e=some i) (hby:i.bytes<=32768) (hx:cO P x=some x') (hy:cO P y=some y') (DG:bq g (dd env y')=some ys)
  (hv:aW g id (m+1) (dd env x') ys=some (v,g')):DL P hs a o w D ι id v g':=by
 have rx:=dw E hx
 have ry:=dw E hy
 obtain⟨it,zv,rP,wL,EV,hm,Gz⟩:=j8 hz
 rw[hi]at rP;injection rP with rP;subst rP
 have jI:i.size=m+1:=by simpa[ez,hi]using fo
 have fits:∀n,n<=dy->n*i.bytes<=140737488355328:=fun n h=>by
  unfold dy at h
  have:=Nat.mul_le_mul h hby
  omega
 have e63:∀n,n<=dy->(n:Int)<=9223372036854775807:=fun n h=>by unfold dy at h;omega
 have same:∀(w1:World) (cells:Array Value),w1=w.drew.alloc (.cells cells e)->w1.heap=w.heap.push (.cells cells e (0,0)):=fun w1 cells h=>by subst h;rfl
 have SH:∀l:List (List AV),(l.all fun c=>c.length==m+1&&c.all AV.cell)=true->(∀c∈l,c.length=m+1)/\∀c∈l,∀b∈c,b.cell=true:=fun l h=>by
  rw[List.all_eq_true]at h
  refine⟨fun c hc=>?_,fun c hc b hb=>?_⟩
  ·have:=h c hc;simp at this;exact this.1
  ·have:=h c hc;simp at this;exact this.2 b hb
 unfold aW at hv
 split at hv
 ·rename_i hb
  rw[hb]at rx
  have ex:=iS rx
  split at hv
  ·simp at hv
   obtain⟨rfl,rfl⟩:=hv
   obtain⟨A,c,ey,_⟩:=nI (sz:=m+1) S ry DG (fun c h=>by cases h) (fun c h=>by cases h)
   refine⟨_,w,ι,.inl (gx ho (by rw[ex,ey];exact pw ht hi none 0 0 (Nat.le_refl _) A c)),Step.refl _ _ _ _,S,.fa _ _ .cj,fun _ _=>rfl⟩
  ·rename_i y0 yr
   split at hv
   ·rename_i hc
    simp only[Option.some.injEq,Prod.mk.injEq]at hv
    obtain⟨rfl,rfl⟩:=hv
    obtain⟨hl,hf⟩:=SH _ hc.2
    obtain⟨A,c,ey,h2⟩:=nI (sz:=m+1) S ry DG hl hf
    rcases h2 with h2|⟨b,oo,news,rfl,q1,q2,q3,q4⟩
    ·cases h2
    have gp:=run_append_nil (P:=P) w t o.type e i zv ht hi wL ⟨b,oo,none⟩ (y0::yr).length c news (by rw[jI];exact q1) (fun j v hj=>by rw[kD];exact q2 j v hj) (by simp) (e63 _ hc.1) (by have:=fits _ hc.1;omega)
    obtain⟨g1,g2⟩:=Cb w (y0::yr).length 0 e hc.1
    have dz:(news.toArray++Builtin.zeroCells zv.cells (grownCap w (y0::yr).length 0 e-(y0::yr).length)).size=grownCap w (y0::yr).length 0 e*(m+1):=by
     rw[Array.size_append,size_zeroCells,EV,jI]
     simp only[List.size_toArray,q1]
     rw[<-Nat.add_mul];congr 1;omega
    have S1:=S.alloc (w':=w.drew.alloc (.cells (news.toArray++Builtin.zeroCells zv.cells (grownCap w (y0::yr).length 0 e-(y0::yr).length)) e)) (r:=⟨true,m+1,y0::yr⟩) rfl hn rfl (by rw[dz];exact Nat.mul_le_mul_right _ g1) hl hf
     (fun k j cs b2 hk hj=>by
      obtain⟨u,hu,yk⟩:=q3.2 _ _ (flat_get hl hk hj)
      refine⟨u,?_,yk⟩
      have eo:=(Array.getElem?_eq_some_iff.1 hu).1
      dsimp only
      rw[Array.getElem?_append_left eo];exact hu)
    have eu:=Dd (T:=e) S (news.toArray++Builtin.zeroCells zv.cells (grownCap w (y0::yr).length 0 e-(y0::yr).length)) hn ⟨w.heap.size,m+1,(news.toArray++Builtin.zeroCells zv.cells (grownCap w (y0::yr).length 0 e-(y0::yr).length)).size,none⟩
    refine⟨_,_,_,.inl (gx ho (by rw[ex,ey];exact gp)),eu,S1,?_,fun _ h=>gG h⟩
    refine .own _ _ _ _ _ _ (ew _ _ _) rfl g1 (.inr (by simp)) ?_ g2
    dsimp only;rw[dz];simp
   ·simp at hv
 ·rename_i i0 len hb
  rw[hb]at rx
  simp only[Option.bind_eq_some_iff]at hv
  obtain⟨r,hg,hv⟩:=hv
  split at hv
  ·rename_i hc
   obtain⟨c1,c2,c3,c4,c5⟩:=hc
   simp only[Option.some.injEq,Prod.mk.injEq]at hv
   obtain⟨rfl,rfl⟩:=hv
   obtain⟨hl,hf⟩:=SH _ c5
   obtain⟨A,c,ey,h2⟩:=nI (sz:=m+1) S ry DG hl hf
   obtain⟨oo,cap,B,ex,hB,h1,Dt,h3,h4,hk⟩:=iq rx
   obtain⟨B',eb,R,jQ,lg⟩:=S.row _ _ hg
   rw[hB]at eb;injection eb with eb;subst eb
   replace R:=R.row hk
   have Du:B.sz=m+1:=R.sz.trans c2
   have Av:∀cs∈r.rows++ys,cs.length=m+1:=fun cs dz=>by
    rcases List.mem_append.1 dz with h|h
    ·rw[<-c2];exact R.len cs h
    ·exact hl cs h
   have OS:∀cs∈r.rows++ys,∀b∈cs,b.cell=true:=fun cs dz=>by
    rcases List.mem_append.1 dz with h|h
    ·exact R.flat cs h
    ·exact hf cs h
   rcases h2 with rfl|⟨yb,yo,news,rfl,q1,q2,q3,q4⟩
   ·have HN:=S.rename hg c1 hB hn
    refine⟨_,w,j7 ι id B,.inl (gx ho (by rw[ex,ey];exact pw ht hi _ _ _ h1 A c)),⟨Below.refl _ _,fun _ _=>rfl,fun _ h=>h,fB hn,fun _ h=>.inl h⟩,?_,?_,fun _ h=>gG h⟩
    ·have:(⟨true,m+1,r.rows++[]⟩:Row)=r:=by cases r;simp_all
     rw[this];exact HN
    ·simp only[List.length_nil,Nat.add_zero]
     exact .own _ _ _ _ _ B (ew _ _ _) hk h1 Dt h3 h4
   ·obtain⟨cur,T,hblk,hC,si⟩:=R.cur
    by_cases eR:len+ys.length<=cap
    ·have I9:ys≠[]->oo=0:=fun h=>by
      rcases Dt with Dt|Dt
      ·have:=List.length_pos_iff.2 h;omega
      ·simpa using Dt
     by_cases hy0:ys=[]
     ·subst hy0
      have HN:=S.rename hg c1 hB hn
      refine⟨_,w,j7 ι id B,.inl (gx ho (by rw[ex,ey];exact pw ht hi _ _ _ h1 _ c)),⟨Below.refl _ _,fun _ _=>rfl,fun _ h=>h,fB hn,fun _ h=>.inl h⟩,?_,?_,fun _ h=>gG h⟩
      ·have:(⟨true,m+1,r.rows++[]⟩:Row)=r:=by cases r;simp_all
       rw[this];exact HN
      ·simp only[List.length_nil,Nat.add_zero]
       exact .own _ _ _ _ _ B (ew _ _ _) hk h1 Dt h3 h4
     have ho0:=I9 hy0
     subst ho0
     have qj:len*i.size+news.length<=cur.size:=by
      rw[jI,q1,hC,<-Nat.add_mul]
      refine Nat.le_trans ?_ h3
      rw[Du,Nat.zero_add]
      exact Nat.mul_le_mul_right _ eR
     have gp:=qC (ty:=o.type) ht hi B.b len cap cur hblk ⟨yb,yo,none⟩ ys.length c news (by rw[jI];exact q1) (fun j v hj=>by rw[kD];exact q2 j v hj) q4 eR qj
     have mi:cur.toList.length=cur.size:=Array.length_toList
     simp only[jI]at gp qj
     obtain⟨P1,P2⟩:=S.put (r':=⟨true,m+1,r.rows++ys⟩) hg c1 hB hblk (cur':=(cur.toList.take (len*(m+1))++news++cur.toList.drop (len*(m+1)+news.length)).toArray) (by simp only[List.size_toArray,List.length_append,List.length_take,List.length_drop,mi];omega) rfl c2.symm
      (by dsimp only;rw[List.length_append,<-c3,<-Du];refine Nat.le_trans (Nat.mul_le_mul_right _ eR) (Nat.le_trans (by simp) h3)) Av OS (fun k j cs b2 hk hj=>by
       simp only[List.getElem?_toArray]
       have gT:j<m+1:=by rw[<-Av cs (List.mem_of_getElem? hk)];exact(List.getElem?_eq_some_iff.1 hj).1
       rw[c2]
       by_cases kM:k<r.rows.length
       ·rw[List.getElem?_append_left kM]at hk
        have h2:k*(m+1)+j<len*(m+1):=jY (by omega) gT
        rw[List.append_assoc,List.getElem?_append_left (by simp only[List.length_take,mi];omega),List.getElem?_take,if_pos h2]
        have:=si k j cs b2 hk hj
        rw[c2]at this;simpa using this
       ·rw[List.getElem?_append_right (by omega)]at hk
        have tr:=(List.getElem?_eq_some_iff.1 hk).1
        have rj:len*(m+1)<=k*(m+1):=Nat.mul_le_mul_right _ (by omega)
        have rn:k*(m+1)+j-len*(m+1)=(k-r.rows.length)*(m+1)+j:=by
         rw[<-c3,Nat.sub_mul];omega
        obtain⟨u,hu,yk⟩:=q3.2 _ _ (flat_get hl hk hj)
        refine⟨u,?_,yk⟩
        have Gu:news[(k-r.rows.length)*(m+1)+j]? =some u:=by simpa using hu
        have eo:=(List.getElem?_eq_some_iff.1 Gu).1
        rw[List.append_assoc,List.getElem?_append_right (by simp only[List.length_take,mi];omega),List.getElem?_append_left (by simp only[List.length_take,mi];omega)]
        rw[<-Gu]
        congr 1
        simp only[List.length_take,mi]
        omega)
     have eC:bL (bY (bL g i0 ⟨true,m+1,r.rows++ys⟩) i0) id ⟨true,m+1,r.rows++ys⟩=bL (bY g i0) id ⟨true,m+1,r.rows++ys⟩:=by
      funext q;simp only[bL,bY]
      by_cases h:q=id<;>by_cases h':q=i0<;>simp[h,h']
     have HN:=P1.rename (i:=i0) (id:=id) (r:=⟨true,m+1,r.rows++ys⟩) (by simp[bL]) rfl hB hn
     rw[eC]at HN
     refine⟨_,_,_,.inl (gx ho (by rw[ex,ey];exact gp)),P2.trans ⟨Below.refl _ _,fun _ _=>rfl,fun _ h=>h,fB hn,fun _ h=>.inl h⟩,HN,?_,fun _ h=>gG h⟩
     exact .own _ _ _ _ _ B (ew _ _ _) hk eR (.inr (by simp)) h3 h4
    ·
     have holds:∃uO:List Value,uO.length=len*(m+1)/\(∀j v,uO[j]? =some v->w.cell? ⟨B.b,oo+j,none⟩=some v)/\fb P w D ι r.rows.flatten uO.toArray:=by
      obtain⟨A2,c2',e2,h2⟩:=nI (sz:=m+1) (u:=.slice (some ⟨B.b,oo,none⟩) len cap) S (.own i0 0 len oo cap B hB hk h1 Dt h3 h4) (ys:=r.rows) (by simp[bq,hg,c3]) (fun cs h=>by rw[<-c2];exact R.len cs h) R.flat
      rcases h2 with h2|⟨b2,o2,uO,rfl,p1,p2,p3,_⟩
      ·refine⟨[],by simp[c3,h2],fun j v h=>by simp at h,by rw[h2];exact⟨rfl,fun j a h=>by simp at h⟩⟩
      ·injection e2 with e2 _ _
       injection e2 with e2
       injection e2 with L1 e22 _
       subst L1;subst e22
       exact⟨uO,by rw[p1,c3],p2,p3⟩
     obtain⟨uO,p1,p2,p3⟩:=holds
     have gp:=run_append_grow (P:=P) w t o.type e i zv ht hi wL ⟨B.b,oo,none⟩ len cap uO (by rw[jI];exact p1) (fun j v hj=>by rw[kD];exact p2 j v hj) ⟨yb,yo,none⟩ ys.length c news (by rw[jI];exact q1) (fun j v hj=>by rw[kD];exact q2 j v hj) (by omega) (e63 _ c4) (growslice_fits (by omega) (fits _ c4))
     obtain⟨g1,g2⟩:=Cb w (len+ys.length) cap e c4
     have dz:(uO.toArray++news.toArray++Builtin.zeroCells zv.cells (grownCap w (len+ys.length) cap e-(len+ys.length))).size=grownCap w (len+ys.length) cap e*(m+1):=by
      rw[Array.size_append,Array.size_append,size_zeroCells,EV,jI]
      simp only[List.size_toArray,q1,p1]
      rw[<-Nat.add_mul,<-Nat.add_mul];congr 1;omega
     have S1:=(S.kill i0).alloc (id:=id) (w':=w.drew.alloc (.cells (uO.toArray++news.toArray++Builtin.zeroCells zv.cells (grownCap w (len+ys.length) cap e-(len+ys.length))) e)) (r:=⟨true,m+1,r.rows++ys⟩) rfl hn rfl (by dsimp only;rw[dz,List.length_append,<-c3];exact Nat.mul_le_mul_right _ g1) Av OS
      (fun k j cs b2 hk hj=>by
       have EH:=flat_get Av hk hj
       rw[List.flatten_append]at EH
       have Nc:uO.length=r.rows.flatten.length:=by have:=p3.1;simpa using this
       dsimp only
       by_cases eo:k*(m+1)+j<r.rows.flatten.length
       ·rw[List.getElem?_append_left eo]at EH
        obtain⟨u,hu,yk⟩:=p3.2 _ _ EH
        refine⟨u,?_,yk⟩
        rw[Array.getElem?_append_left (by simp;omega),Array.getElem?_append_left (by simp;omega)];exact hu
       ·rw[List.getElem?_append_right (by omega)]at EH
        obtain⟨u,hu,yk⟩:=q3.2 _ _ EH
        refine⟨u,?_,yk⟩
        have Ci:=(Array.getElem?_eq_some_iff.1 hu).1
        simp only[List.size_toArray]at Ci
        rw[Array.getElem?_append_left (by simp;omega),Array.getElem?_append_right (by simp;omega)]
        simp only[List.size_toArray,Nc];exact hu)
     have eu:=Dd (T:=e) S (uO.toArray++news.toArray++Builtin.zeroCells zv.cells (grownCap w (len+ys.length) cap e-(len+ys.length))) hn ⟨w.heap.size,m+1,(uO.toArray++news.toArray++Builtin.zeroCells zv.cells (grownCap w (len+ys.length) cap e-(len+ys.length))).size,none⟩
     refine⟨_,_,_,.inl (gx ho (by rw[ex,ey];exact gp)),eu,S1,?_,fun _ h=>gG h⟩
     refine .own _ _ _ _ _ _ (ew _ _ _) rfl g1 (.inr (by simp)) ?_ g2
     dsimp only;rw[dz];simp
  ·simp at hv
 ·simp at hv
theorem lF {x:Operand} {t:TypeId} {u:Value} (ho:o.op=.call {callee:=.builtin .clear,args:= #[x],argTypes:= #[t]}) (h:(Builtin.clear_ #[t] o.type #[a.eval x]).run P w=.ok u w'):(execOp a.eval o).run P w=.ok (.value u) w':=by
 simp only[execOp,ho,resolve,Sem.run_bind,Sem.run_pure,Result.andThen_ok,invoke,builtin]
 simp only[List.map_toArray,List.map_cons,List.map_nil]
 rw[h];rfl
theorem MF {x:Operand} {x':O} {t e:TypeId} {m:Nat} {z:List K} {g':Rows} (S:gw P hs D ι g w) (E:cX P w D ι env a) (ho:o.op=.call {callee:=.builtin .clear,args:= #[x],argTypes:= #[t]})
  (ht:P.underlying t=some (.slice e)) (fo:ez P e=some (m+1)) (hz:jN P e=some z) (hx:cO P x=some x') (hv:bE g z (dd env x')=some g'):DL P hs a o w D ι id .undef g':=by
 have rx:=dw E hx
 obtain⟨it,zv,hi,wL,EV,hm,Gz⟩:=j8 hz
 have jI:it.size=m+1:=by simpa[ez,hi]using fo
 unfold bE at hv
 split at hv
 ·rename_i hb
  rw[hb]at rx
  simp at hv;subst hv
  refine⟨undef,w,ι,.inl (lF ho (by rw[iS rx];simp only[Builtin.clear_,Sem.run_bind];simp[run_underlying ht,undef])),Step.refl _ _ _ _,S,dm.undef,fun _ _=>rfl⟩
 ·rename_i i off len hb
  rw[hb]at rx
  simp only[Option.bind_eq_some_iff]at hv
  obtain⟨r,hg,hv⟩:=hv
  split at hv
  ·rename_i hc
   obtain⟨c1,c2,c3⟩:=hc
   simp only[Option.some.injEq]at hv;subst hv
   obtain⟨oo,cap,B,ex,hB,h1,h2,h3,h4,hk⟩:=iq rx
   obtain⟨B',eb,R,jQ,lg⟩:=S.row _ _ hg
   rw[hB]at eb;injection eb with eb;subst eb
   replace R:=R.row hk
   obtain⟨cur,T,hblk,hC,si⟩:=R.cur
   by_cases h0:len=0
   ·subst h0
    have e1:({r with rows:=r.rows.take off++List.replicate 0 (z.map K.av)++r.rows.drop (off+0)}:Row)=r:=by cases r;simp
    rw[e1]
    have e2:bL g i r=g:=by
     funext q;unfold bL;split
     ·rename_i h;rw[h,hg]
     ·rfl
    rw[e2]
    refine⟨undef,w,ι,.inl (lF ho (by rw[ex];simp only[Builtin.clear_,Sem.run_bind];simp[run_underlying ht,undef])),Step.refl _ _ _ _,S,dm.undef,fun _ _=>rfl⟩
   ·have Bj:oo=off*B.sz:=by rcases h2 with h2|h2<;>omega
    have Du:B.sz=m+1:=by rw[R.sz,c2,Gz,jI]
    have y4:r.sz=m+1:=by rw[<-R.sz,Du]
    have Uf:zv.cells.size=m+1:=by rw[EV,jI]
    have xU:(Builtin.zeroCells zv.cells len).toList.length=len*(m+1):=by rw[Array.length_toList,size_zeroCells,Uf]
    have Ue:∀k,k<len*(m+1)->∃c,z[k % z.length]? =some c/\(Builtin.zeroCells zv.cells len).toList[k]? =some c.val:=fun k hk=>by
     obtain⟨c,qi,EC⟩:=pG (n:=len*zv.cells.size) hm (by rw[Gz,jI];omega) k (by rw[Uf];exact hk)
     exact⟨c,qi,by rw[Array.getElem?_toList];exact EC⟩
    have hbound:(off+len)*(m+1)<=r.rows.length*(m+1):=Nat.mul_le_mul_right _ c3
    have Cg:=R.fits
    rw[y4]at Cg
    have WZ:(off+len)*(m+1)=off*(m+1)+len*(m+1):=Nat.add_mul _ _ _
    have eu:=run_storeCells_at P B.b oo T (Builtin.zeroCells zv.cells len).toList 0 cur w hblk (by rw[xU,hC,Bj,Du];omega) (by
     intro v hv
     obtain⟨k,hk,rfl⟩:=List.getElem_of_mem hv
     obtain⟨c,_,EC⟩:=Ue k (by rw[<-xU];exact hk)
     rw[List.getElem?_eq_getElem hk]at EC
     injection EC with EC
     rw[EC];cases c<;>rfl)
    simp only[Nat.add_zero]at eu
    have mi:cur.toList.length=cur.size:=Array.length_toList
    obtain⟨P1,P2⟩:=S.put (r':={r with rows:=r.rows.take off++List.replicate len (z.map K.av)++r.rows.drop (off+len)}) hg c1 hB hblk (cur':=(cur.toList.take oo++(Builtin.zeroCells zv.cells len).toList++cur.toList.drop (oo+(Builtin.zeroCells zv.cells len).toList.length)).toArray)
     (by simp only[List.size_toArray,List.length_append,List.length_take,List.length_drop,mi,xU];rw[Bj,Du];omega) c1 rfl (by
      have:(r.rows.take off++List.replicate len (z.map K.av)++r.rows.drop (off+len)).length=r.rows.length:=by simp;omega
      dsimp only;rw[this];exact R.fits) (fun cs dz=>by
      rcases List.mem_append.1 dz with h|h
      ·rcases List.mem_append.1 h with h|h
       ·exact R.len cs (List.mem_of_mem_take h)
       ·rw[List.eq_of_mem_replicate h];simp[c2]
      ·exact R.len cs (List.mem_of_mem_drop h)) (fun cs dz b hb=>by
      rcases List.mem_append.1 dz with h|h
      ·rcases List.mem_append.1 h with h|h
       ·exact R.flat cs (List.mem_of_mem_take h) b hb
       ·rw[List.eq_of_mem_replicate h]at hb
        obtain⟨c,_,rfl⟩:=List.mem_map.1 hb;exact c.nr
      ·exact R.flat cs (List.mem_of_mem_drop h) b hb) (fun k j cs b hk hj=>by
      simp only[List.getElem?_toArray]
      rw[y4]
      rw[Bj,Du,xU]
      by_cases pc:k<off
      ·rw[List.append_assoc,List.getElem?_append_left (by simp;omega),List.getElem?_take,if_pos pc]at hk
       have gT:j<m+1:=by rw[<-y4,<-R.len cs (List.mem_of_getElem? hk)];exact(List.getElem?_eq_some_iff.1 hj).1
       have h2:=jY pc gT
       rw[List.append_assoc,List.getElem?_append_left (by simp only[List.length_take,mi];omega),List.getElem?_take,if_pos h2]
       have:=si k j cs b hk hj
       rw[y4]at this;simpa using this
      ·by_cases tr:k<off+len
       ·rw[List.append_assoc,List.getElem?_append_right (by simp;omega),List.getElem?_append_left (by simp;omega)]at hk
        have gS:=List.eq_of_mem_replicate (List.mem_of_getElem? hk)
        subst gS
        simp only[List.getElem?_map,Option.map_eq_some_iff]at hj
        obtain⟨q,hq,rfl⟩:=hj
        have gT:=(List.getElem?_eq_some_iff.1 hq).1
        rw[Gz,jI]at gT
        have rj:off*(m+1)<=k*(m+1):=Nat.mul_le_mul_right _ (by omega)
        have rn:k*(m+1)+j-off*(m+1)=(k-off)*(m+1)+j:=by rw[Nat.sub_mul];omega
        have Ci:(k-off)*(m+1)+j<len*(m+1):=jY (by omega) gT
        rw[List.append_assoc,List.getElem?_append_right (by simp only[List.length_take,mi];omega),List.getElem?_append_left (by simp only[List.length_take,mi,xU];omega)]
        obtain⟨c,qi,EC⟩:=Ue _ Ci
        rw[Gz,jI,Nat.mul_comm (k-off),Nat.mul_add_mod,Nat.mod_eq_of_lt gT,hq]at qi
        injection qi with qi;subst qi
        refine⟨q.val,?_,xp q⟩
        rw[<-EC]
        congr 1
        simp only[List.length_take,mi];omega
       ·rw[List.getElem?_append_right (by simp;omega)]at hk
        simp only[List.length_append,List.length_take,List.length_replicate,List.getElem?_drop]at hk
        rw[show off+len+(k-(min off r.rows.length+len))=k by omega]at hk
        have kM:=(List.getElem?_eq_some_iff.1 hk).1
        have rj:(off+len)*(m+1)<=k*(m+1):=Nat.mul_le_mul_right _ (by omega)
        rw[List.getElem?_append_right (by simp only[List.length_append,List.length_take,mi,xU];omega)]
        simp only[List.length_append,List.length_take,mi,xU,List.getElem?_drop]
        rw[show off*(m+1)+len*(m+1)+(k*(m+1)+j-(min (off*(m+1)) cur.size+len*(m+1)))=k*(m+1)+j by omega]
        have:=si k j cs b hk hj
        rw[y4]at this;simpa using this)
    refine⟨undef,_,ι,.inl (lF ho ?_),P2,P1,dm.undef,fun _ _=>rfl⟩
    rw[ex]
    cases len with
    |zero=>exact(h0 rfl).elim
    |succ len=>
     simp only[Builtin.clear_,Sem.run_bind]
     simp[run_underlying ht,zeroValue,typeInfo,hi,wL,eu,undef]
  ·simp at hv
 ·simp at hv
theorem IA {dT sT ty e:TypeId} {it:TypeInfo} (hu:P.underlying dT=some (.slice e)) (hi:P.info? e=some it) (A B:Option Addr) (oD AO yd JI:Nat) (h0:Nat.min oD yd=0):
  (Builtin.copy_ #[dT,sT] ty #[.slice A yd JI,.slice B oD AO]).run P w=.ok (goInt 0) w:=by
 cases A<;>cases B<;>simp[Builtin.copy_,run_underlying hu,Builtin.lenOf,Builtin.firstCells,sizeOf,typeInfo,hi,h0,storeCells,loadCells,loadCellsFrom]
theorem IB {dT sT ty e:TypeId} {it:TypeInfo} (hu:P.underlying dT=some (.slice e)) (hi:P.info? e=some it) (A B:Addr) (oD AO yd JI:Nat) (cs:List Value) (hn:cs.length=Nat.min oD yd*it.size) (hl:(loadCells B cs.length).run P w=.ok cs.toArray w) (hs:(storeCells A cs).run P w=.ok () w'):
  (Builtin.copy_ #[dT,sT] ty #[.slice (some A) yd JI,.slice (some B) oD AO]).run P w=.ok (goInt (Nat.min oD yd)) w':=by
 simp[Builtin.copy_,run_underlying hu,Builtin.lenOf,Builtin.firstCells,sizeOf,typeInfo,hi,<-hn,hl,hs]
theorem qE {x y:Operand} {t t2:TypeId} {u:Value} (ho:o.op=.call {callee:=.builtin .copy,args:= #[x,y],argTypes:= #[t,t2]}) (h:(Builtin.copy_ #[t,t2] o.type #[a.eval x,a.eval y]).run P w=.ok u w'):(execOp a.eval o).run P w=.ok (.value u) w':=by
 simp only[execOp,ho,resolve,Sem.run_bind,Sem.run_pure,Result.andThen_ok,invoke,builtin]
 simp only[List.map_toArray,List.map_cons,List.map_nil]
 rw[h];rfl
theorem PW {x y:Operand} {x' y':O} {t t2 e:TypeId} {m:Nat} {ys:List (List AV)} {v:AV} {g':Rows} (S:gw P hs D ι g w) (E:cX P w D ι env a) (ho:o.op=.call {callee:=.builtin .copy,args:= #[x,y],argTypes:= #[t,t2]})
  (ht:P.underlying t=some (.slice e)) (fo:ez P e=some (m+1)) (hx:cO P x=some x') (hy:cO P y=some y') (DG:bq g (dd env y')=some ys) (hv:GW g (m+1) (dd env x') ys=some (v,g')):DL P hs a o w D ι id v g':=by
 have rx:=dw E hx
 have ry:=dw E hy
 obtain⟨it,hi,jI⟩:∃it,P.info? e=some it/\it.size=m+1:=by
  cases hq:P.info? e with
  |none=>simp[ez,hq]at fo
  |some it=>exact⟨it,rfl,by simpa[ez,hq]using fo⟩
 unfold GW at hv
 split at hv
 ·rename_i i off len hb
  rw[hb]at rx
  simp only[Option.bind_eq_some_iff]at hv
  obtain⟨r,hg,hv⟩:=hv
  split at hv
  ·rename_i hc
   obtain⟨c1,c2,c3,c4⟩:=hc
   simp only[Option.some.injEq,Prod.mk.injEq]at hv
   obtain⟨rfl,rfl⟩:=hv
   rw[List.all_eq_true]at c4
   have hl:∀c∈ys,c.length=m+1:=fun c hc=>by have:=c4 c hc;simp at this;exact this.1
   have hf:∀c∈ys,∀b∈c,b.cell=true:=fun c hc b hb=>by have:=c4 c hc;simp at this;exact this.2 b hb
   obtain⟨oo,cap,B,ex,hB,h1,h2,h3,h4,hk⟩:=iq rx
   obtain⟨B',eb,R,jQ,lg⟩:=S.row _ _ hg
   rw[hB]at eb;injection eb with eb;subst eb
   replace R:=R.row hk
   obtain⟨cur,T,hblk,hC,si⟩:=R.cur
   obtain⟨A,sc,hu,hA⟩:=nI S ry DG hl hf
   by_cases h0:min ys.length len=0
   ·rw[h0]
    have e1:({r with rows:=r.rows.take off++ys.take 0++r.rows.drop (off+0)}:Row)=r:=by cases r;simp
    rw[e1]
    have e2:bL g i r=g:=by
     funext q;unfold bL;split
     ·rename_i h;rw[h,hg]
     ·rfl
    rw[e2]
    refine⟨goInt 0,w,ι,.inl (qE ho (by rw[ex,hu];exact IA ht hi _ _ _ _ _ _ h0)),Step.refl _ _ _ _,S,.fa _ _ (.int _ _),fun _ _=>rfl⟩
   ·rcases hA with rfl|⟨b,o2,news,rfl,rm,HO,hR,Ta⟩
    ·simp at h0
    have TM:Nat.min ys.length len=min ys.length len:=rfl
    have hky:min ys.length len<=ys.length:=Nat.min_le_left _ _
    have kM:min ys.length len<=len:=Nat.min_le_right _ _
    generalize Sg:min ys.length len=kk at *
    have O8:len≠0:=by omega
    have Bj:oo=off*B.sz:=by rcases h2 with h2|h2<;>omega
    have Du:B.sz=m+1:=by rw[R.sz,c2]
    have y4:r.sz=m+1:=c2
    have Vn:kk*(m+1)<=ys.length*(m+1):=Nat.mul_le_mul_right _ hky
    have xU:(news.take (kk*(m+1))).length=kk*(m+1):=by rw[List.length_take,rm];omega
    have hbound:(off+kk)*(m+1)<=r.rows.length*(m+1):=Nat.mul_le_mul_right _ (by omega)
    have Cg:=R.fits
    rw[y4]at Cg
    have WZ:(off+kk)*(m+1)=off*(m+1)+kk*(m+1):=Nat.add_mul _ _ _
    have eu:=run_storeCells_at P B.b oo T (news.take (kk*(m+1))) 0 cur w hblk (by rw[xU,hC,Bj,Du];omega) (fun v hv=>Ta v (List.mem_of_mem_take hv))
    have Vq:=run_loadCells_list (P:=P) w ⟨b,o2,none⟩ (news.take (kk*(m+1))) (fun j v hj=>by
     rw[List.getElem?_take]at hj
     split at hj
     ·have:=HO j v hj
      cases j with
      |zero=>simpa[Addr.add]using this
      |succ j=>simpa[Addr.add]using this
     ·cases hj)
    simp only[Nat.add_zero]at eu
    have mi:cur.toList.length=cur.size:=Array.length_toList
    have ER:(ys.take kk).length=kk:=by rw[List.length_take];omega
    obtain⟨P1,P2⟩:=S.put (r':={r with rows:=r.rows.take off++ys.take kk++r.rows.drop (off+kk)}) hg c1 hB hblk (cur':=(cur.toList.take oo++news.take (kk*(m+1))++cur.toList.drop (oo+(news.take (kk*(m+1))).length)).toArray)
     (by simp only[List.size_toArray,List.length_append,List.length_drop,mi,xU];rw[List.length_take,mi,Bj,Du];omega) c1 rfl (by
      have:(r.rows.take off++ys.take kk++r.rows.drop (off+kk)).length=r.rows.length:=by simp;omega
      dsimp only;rw[this];exact R.fits) (fun cs dz=>by
      rcases List.mem_append.1 dz with h|h
      ·rcases List.mem_append.1 h with h|h
       ·exact R.len cs (List.mem_of_mem_take h)
       ·rw[hl cs (List.mem_of_mem_take h)];exact c2.symm
      ·exact R.len cs (List.mem_of_mem_drop h)) (fun cs dz b hb=>by
      rcases List.mem_append.1 dz with h|h
      ·rcases List.mem_append.1 h with h|h
       ·exact R.flat cs (List.mem_of_mem_take h) b hb
       ·exact hf cs (List.mem_of_mem_take h) b hb
      ·exact R.flat cs (List.mem_of_mem_drop h) b hb) (fun k j cs b hk hj=>by
      simp only[List.getElem?_toArray]
      rw[y4]
      rw[Bj,Du,xU]
      by_cases pc:k<off
      ·rw[List.append_assoc,List.getElem?_append_left (by simp;omega),List.getElem?_take,if_pos pc]at hk
       have gT:j<m+1:=by rw[<-y4,<-R.len cs (List.mem_of_getElem? hk)];exact(List.getElem?_eq_some_iff.1 hj).1
       have h2:=jY pc gT
       rw[List.append_assoc,List.getElem?_append_left (by simp only[List.length_take,mi];omega),List.getElem?_take,if_pos h2]
       have:=si k j cs b hk hj
       rw[y4]at this;simpa using this
      ·by_cases tr:k<off+kk
       ·rw[List.append_assoc,List.getElem?_append_right (by simp;omega),List.getElem?_append_left (by simp;omega)]at hk
        simp only[List.length_take]at hk
        rw[show k-min off r.rows.length=k-off by omega,List.getElem?_take,if_pos (by omega)]at hk
        have gT:j<m+1:=by rw[<-hl cs (List.mem_of_getElem? hk)];exact(List.getElem?_eq_some_iff.1 hj).1
        have rj:off*(m+1)<=k*(m+1):=Nat.mul_le_mul_right _ (by omega)
        have rn:k*(m+1)+j-off*(m+1)=(k-off)*(m+1)+j:=by rw[Nat.sub_mul];omega
        have Ci:(k-off)*(m+1)+j<kk*(m+1):=jY (by omega) gT
        rw[List.append_assoc,List.getElem?_append_right (by simp only[List.length_take,mi];omega),List.getElem?_append_left (by rw[xU];simp only[List.length_take,mi];omega)]
        obtain⟨u,QY,T7⟩:=hR.2 ((k-off)*(m+1)+j) b (flat_get hl hk hj)
        refine⟨u,?_,T7⟩
        rw[List.getElem?_take]
        simp only[List.length_take,mi]
        rw[show k*(m+1)+j-min (off*(m+1)) cur.size=(k-off)*(m+1)+j by omega,if_pos Ci]
        simpa using QY
       ·rw[List.getElem?_append_right (by simp;omega)]at hk
        simp only[List.length_append,List.length_take,List.getElem?_drop]at hk
        rw[show off+kk+(k-(min off r.rows.length+min kk ys.length))=k by omega]at hk
        have kM:=(List.getElem?_eq_some_iff.1 hk).1
        have rj:(off+kk)*(m+1)<=k*(m+1):=Nat.mul_le_mul_right _ (by omega)
        rw[List.getElem?_append_right (by rw[List.length_append,xU];simp only[List.length_take,mi];omega)]
        rw[List.getElem?_drop,List.length_append,xU]
        simp only[List.length_take,mi]
        rw[show off*(m+1)+kk*(m+1)+(k*(m+1)+j-(min (off*(m+1)) cur.size+kk*(m+1)))=k*(m+1)+j by omega]
        have:=si k j cs b hk hj
        rw[y4]at this;simpa using this)
    refine⟨goInt kk,_,ι,.inl (qE ho ?_),P2,P1,.fa _ _ (.int _ _),fun _ _=>rfl⟩
    rw[ex,hu]
    have:=IB (w:=w) (sT:=t2) (ty:=o.type) ht hi ⟨B.b,oo,none⟩ ⟨b,o2,none⟩ ys.length sc len cap _ (by rw[xU,TM,jI]) Vq eu
    rw[TM]at this
    exact this
  ·simp at hv
 ·simp at hv
end
end Go.Proofs.YtgoljkjaameagaaGreat.V

namespace Go.Proofs.YtgoljkjaameagaaGreat.V
open Go.RowKit
variable {P:Program} {w w':World} {D D' D2:Nat->Prop} {ι ι' ι2:Names}
section
variable {g:Rows} {hs:Nat}
theorem gL:∀{n:Nat} {l r:List AV},de g n l=some r->r.length=l.length/\∀(j:Nat) (b:AV),r[j]? =some b->∃a,l[j]? =some a/\fz g n a=some b
 |n,[],r,h=>by
  rw[de]at h;simp at h;subst h;simp
 |n,a::l,r,h=>by
  rw[de]at h
  split at h
  ·rename_i b hb
   simp only[Option.map_eq_some_iff]at h
   obtain⟨r',hr,rfl⟩:=h
   obtain⟨h1,h2⟩:=gL hr
   refine⟨by simp[h1],fun j c hj=>?_⟩
   cases j with
   |zero=>simp at hj;subst hj;exact⟨a,rfl,hb⟩
   |succ j=>simp at hj ⊢;exact h2 j c hj
  ·simp at h
theorem wq:∀{n:Nat} {l r:List (List AV)},ee g n l=some r->r.length=l.length/\∀(j:Nat) (b:List AV),r[j]? =some b->∃a,l[j]? =some a/\de g n a=some b
 |n,[],r,h=>by
  rw[ee]at h;simp at h;subst h;simp
 |n,a::l,r,h=>by
  rw[ee]at h
  split at h
  ·rename_i b hb
   simp only[Option.map_eq_some_iff]at h
   obtain⟨r',hr,rfl⟩:=h
   obtain⟨h1,h2⟩:=wq hr
   refine⟨by simp[h1],fun j c hj=>?_⟩
   cases j with
   |zero=>simp at hj;subst hj;exact⟨a,rfl,hb⟩
   |succ j=>simp at hj ⊢;exact h2 j c hj
  ·simp at h
theorem sg (hD:∀b,D b->D2 b) (vT:∀id row,g id=some row->row.w=true->∃B,ι id=some B/\im P w D ι B row/\D2 B.b):∀(n:Nat) (a:AV) (u:Value) (r:AV),dm P w D ι a u->fz g n a=some r->dm P w D2 ι2 r u/\(a.cell=true->ke P w D2 r u/\r.cell=true):=by
 intro n
 induction n with
 |zero=>intro a u r _ h;rw[fz]at h;simp at h
 |succ n ih=>
  intro a u r hr h
  have both:∀{r:AV},ke P w D2 r u->r.cell=true->dm P w D2 ι2 r u/\(a.cell=true->ke P w D2 r u/\r.cell=true):=fun h1 h2=>⟨.fa _ _ h1,fun _=>⟨h1,h2⟩⟩
  cases a with
  |map id m=>rw[fz]at h;cases h
  |tj id=>rw[fz]at h;cases h
  |own id off len=>
   rw[fz]at h
   split at h
   ·rename_i row hg
    split at h
    ·rename_i hw
     split at h
     ·rename_i hle
      simp only[Option.map_eq_some_iff]at h
      obtain⟨rows,sq,rfl⟩:=h
      obtain⟨B,hB,R,Qh⟩:=vT id row hg hw
      obtain⟨o,cap,B',rfl,eb,h1,h2,h3,h4,hk⟩:=iq hr
      rw[hB]at eb;injection eb with eb;subst eb
      replace R:=R.row hk
      obtain⟨l1,l2⟩:=wq sq
      have hlen:rows.length=len:=by rw[l1];simp;omega
      by_cases h0:rows=[]
      ·subst h0
       simp at hlen;subst hlen
       exact both (.DI _ _ h4) rfl
      ·have hlp:0<len:=by rw[<-hlen];exact List.length_pos_iff.2 h0
       have ho:o=off*B.sz:=by rcases h2 with h2|h2<;>omega
       have src:∀i cs,rows[i]? =some cs->∃c0,row.rows[off+i]? =some c0/\de g n c0=some cs:=fun i cs hi=>by
        obtain⟨c0,jO,hf⟩:=l2 i cs hi
        rw[List.getElem?_take]at jO
        split at jO
        ·rw[List.getElem?_drop]at jO;exact⟨c0,jO,hf⟩
        ·simp at jO
       have cell:∀i j,i<len->j<row.sz->∃c0 a0 v,row.rows[off+i]? =some c0/\c0[j]? =some a0/\w.cell? ⟨B.b,o+(i*row.sz+j),none⟩=some v/\dm P w D ι a0 v:=fun i j hi hj=>by
        have rP:off+i<row.rows.length:=by omega
        have e1:=List.getElem?_eq_getElem rP
        have Mb:j<row.rows[off+i].length:=by rw[R.len _ (List.getElem_mem rP)];exact hj
        obtain⟨v,hv,lN⟩:=R.at_ _ _ _ _ e1 (List.getElem?_eq_getElem Mb)
        refine⟨_,_,v,e1,List.getElem?_eq_getElem Mb,?_,lN⟩
        rw[ho,R.sz,<-hv]
        congr 2
        rw[Nat.add_mul];omega
       refine both (.sl rows B.b o len cap row.sz (fun i j=>(w.cell? ⟨B.b,o+(i*row.sz+j),none⟩).getD undef) hlen h1 h4 Qh (fun cs dz=>?_) (fun cs dz b hb=>?_) (fun i j hi hj=>?_) (fun i j cs b hi hj=>?_)) rfl
       ·obtain⟨i,hi,rfl⟩:=List.getElem_of_mem dz
        obtain⟨c0,jO,hf⟩:=src i _ (List.getElem?_eq_getElem hi)
        rw[(gL hf).1];exact R.len c0 (List.mem_of_getElem? jO)
       ·obtain⟨i,hi,rfl⟩:=List.getElem_of_mem dz
        obtain⟨c0,jO,hf⟩:=src i _ (List.getElem?_eq_getElem hi)
        obtain⟨j,hj,rfl⟩:=List.getElem_of_mem hb
        obtain⟨a0,lL,HJ⟩:=(gL hf).2 j _ (List.getElem?_eq_getElem hj)
        obtain⟨v,_,lN⟩:=R.at_ _ _ _ _ jO lL
        exact((ih _ _ _ lN HJ).2 (R.flat c0 (List.mem_of_getElem? jO) a0 (List.mem_of_getElem? lL))).2
       ·obtain⟨c0,a0,v,_,_,hv,_⟩:=cell i j hi hj
        simp only[hv,Option.getD_some]
       ·obtain⟨c0,jO,hf⟩:=src i cs hi
        obtain⟨a0,lL,HJ⟩:=(gL hf).2 j b hj
        have mj:i<len:=by rw[<-hlen];exact(List.getElem?_eq_some_iff.1 hi).1
        have gT:j<row.sz:=by rw[<-R.len c0 (List.mem_of_getElem? jO)];exact(List.getElem?_eq_some_iff.1 lL).1
        obtain⟨c1,a1,v,e1,e2,hv,lN⟩:=cell i j mj gT
        rw[jO]at e1;injection e1 with e1;subst e1
        rw[lL]at e2;injection e2 with e2;subst e2
        simp only[hv,Option.getD_some]
        exact((ih _ _ _ lN HJ).2 (R.flat c0 (List.mem_of_getElem? jO) a0 (List.mem_of_getElem? lL))).1
     ·simp at h
    ·simp at h
   ·simp at h
  |ptr id i off=>
   rw[fz]at h
   split at h
   ·rename_i row hg
    split at h
    ·rename_i hw
     split at h
     ·rename_i c0 jO
      simp only[Option.map_eq_some_iff]at h
      obtain⟨cs,dz,rfl⟩:=h
      obtain⟨B,hB,R,Qh⟩:=vT id row hg hw
      obtain⟨B',rfl,eb,hk⟩:=iY hr
      rw[hB]at eb;injection eb with eb;subst eb
      replace R:=R.row hk
      obtain⟨l1,l2⟩:=gL dz
      have at_:∀j b,cs[j]? =some b->∃a0 v,w.cell? ⟨B.b,i*B.sz+off+j,none⟩=some v/\dm P w D ι a0 v/\a0.cell=true/\fz g n a0=some b:=fun j b hj=>by
       obtain⟨a0,lL,hf⟩:=l2 j b hj
       rw[List.getElem?_drop]at lL
       obtain⟨v,hv,lN⟩:=R.at_ _ _ _ _ jO lL
       refine⟨a0,v,?_,lN,R.flat c0 (List.mem_of_getElem? jO) a0 (List.mem_of_getElem? lL),hf⟩
       rw[R.sz,Nat.add_assoc];exact hv
      refine both (.dp cs B.b _ (fun j=>(w.cell? ⟨B.b,i*B.sz+off+j,none⟩).getD undef) Qh (fun b hb=>?_) (fun j hj=>?_) (fun j b hj=>?_)) rfl
      ·obtain⟨j,hj,rfl⟩:=List.getElem_of_mem hb
       obtain⟨a0,v,_,lN,hc,hf⟩:=at_ j _ (List.getElem?_eq_getElem hj)
       exact((ih _ _ _ lN hf).2 hc).2
      ·obtain⟨a0,v,hv,_⟩:=at_ j _ (List.getElem?_eq_getElem hj)
       simp only[hv,Option.getD_some]
      ·obtain⟨a0,v,hv,lN,hc,hf⟩:=at_ j b hj
       simp only[hv,Option.getD_some]
       exact((ih _ _ _ lN hf).2 hc).1
     ·simp at h
    ·simp at h
   ·simp at h
  |agg cs=>
   rw[fz]at h
   simp only[Option.map_eq_some_iff]at h
   obtain⟨r',oE,rfl⟩:=h
   obtain⟨vs,f,rfl,h1,h2,h3,h4⟩:=iE hr
   obtain⟨l1,l2⟩:=gL oE
   have hI:ke P w D2 (.agg r') (.agg vs):=.agg r' vs f (by rw[h1,l1]) (fun b hb=>by
    obtain⟨j,hj,rfl⟩:=List.getElem_of_mem hb
    obtain⟨a0,lL,hf⟩:=l2 j _ (List.getElem?_eq_getElem hj)
    exact((ih _ _ _ (h4 j a0 lL) hf).2 (h2 a0 (List.mem_of_getElem? lL))).2) (fun j hj=>h3 j (by rw[<-l1];exact hj)) (fun j b hj=>by
    obtain⟨a0,lL,hf⟩:=l2 j b hj
    exact((ih _ _ _ (h4 j a0 lL) hf).2 (h2 a0 (List.mem_of_getElem? lL))).1)
   exact⟨.fa _ _ hI,fun hc=>by simp[AV.cell]at hc⟩
  |iA cs=>
   rw[fz]at h
   simp only[Option.map_eq_some_iff]at h
   obtain⟨r',oE,rfl⟩:=h
   obtain⟨vs,f,rfl,h1,h3,h4⟩:=vn hr
   obtain⟨l1,l2⟩:=gL oE
   exact⟨.iA r' vs f (by rw[h1,l1]) (fun j hj=>h3 j (by rw[<-l1];exact hj)) (fun j b hj=>by
    obtain⟨a0,lL,hf⟩:=l2 j b hj
    exact(ih _ _ _ (h4 j a0 lL) hf).1),fun hc=>by simp[AV.cell]at hc⟩
  |fn f dn=>
   rw[fz]at h
   split at h
   ·rename_i eh
    simp only[Option.map_eq_some_iff]at h
    obtain⟨r',oE,rfl⟩:=h
    obtain⟨vs,q,rfl,h0,h1,h3,h4⟩:=xo hr
    obtain⟨l1,l2⟩:=gL oE
    exact both (.fn f r' vs q h0 (by rw[h1,l1]) (fun j hj=>h3 j (by rw[<-l1];exact hj)) (fun j b hj=>by
     obtain⟨a0,lL,hf⟩:=l2 j b hj
     exact((ih _ _ _ (h4 j a0 lL) hf).2 (List.all_eq_true.1 eh a0 (List.mem_of_getElem? lL))).1)) rfl
   ·simp at h
  |int k m=>rw[fz]at h<;>(try simp at h)<;>(try subst h)<;>(try(rw[dB hr];exact⟨.fa _ _ (.int _ _),fun _=>⟨.int _ _,rfl⟩⟩))<;>(try(intros;simp_all))
  |bool b=>rw[fz]at h<;>(try simp at h)<;>(try subst h)<;>(try(rw[fu hr];exact⟨.fa _ _ (.bool _),fun _=>⟨.bool _,rfl⟩⟩))<;>(try(intros;simp_all))
  |str b=>rw[fz]at h<;>(try simp at h)<;>(try subst h)<;>(try(rw[fV hr];exact⟨.fa _ _ (.str _),fun _=>⟨.str _,rfl⟩⟩))<;>(try(intros;simp_all))
  |cj=>rw[fz]at h<;>(try simp at h)<;>(try subst h)<;>(try(rw[iS hr];exact⟨.fa _ _ .cj,fun _=>⟨.cj,rfl⟩⟩))<;>(try(intros;simp_all))
  |jC=>rw[fz]at h<;>(try simp at h)<;>(try subst h)<;>(try(rw[xq hr];exact⟨.fa _ _ .jC,fun _=>⟨.jC,rfl⟩⟩))<;>(try(intros;simp_all))
  |jJ=>rw[fz]at h<;>(try simp at h)<;>(try subst h)<;>(try(rw[C9 hr];exact⟨.fa _ _ .jJ,fun _=>⟨.jJ,rfl⟩⟩))<;>(try(intros;simp_all))
  |vh f dn=>rw[fz]at h<;>(try simp at h)<;>(try(intros;simp_all))
  |il=>rw[fz]at h<;>(try simp at h)<;>(try subst h)<;>(try(cases hr with|fa _ _ hr=>exact both (hr.frame (fun _ _=>rfl) hD) rfl))<;>(try(intros;simp_all))
  |sl rows=>rw[fz]at h<;>(try simp at h)<;>(try subst h)<;>(try(cases hr with|fa _ _ hr=>exact both (hr.frame (fun _ _=>rfl) hD) rfl))<;>(try(intros;simp_all))
  |dp cs=>rw[fz]at h<;>(try simp at h)<;>(try subst h)<;>(try(cases hr with|fa _ _ hr=>exact both (hr.frame (fun _ _=>rfl) hD) rfl))<;>(try(intros;simp_all))
theorem jb:∀{n:Nat} {l r:List AV},er g n l=some r->r.length=l.length/\∀(j:Nat) (b:AV),r[j]? =some b->∃a,l[j]? =some a/\gq g n a=some b
 |n,[],r,h=>by
  rw[er]at h;simp at h;subst h;simp
 |n,a::l,r,h=>by
  rw[er]at h
  split at h
  ·rename_i b hb
   simp only[Option.map_eq_some_iff]at h
   obtain⟨r',hr,rfl⟩:=h
   obtain⟨h1,h2⟩:=jb hr
   refine⟨by simp[h1],fun j c hj=>?_⟩
   cases j with
   |zero=>simp at hj;subst hj;exact⟨a,rfl,hb⟩
   |succ j=>simp at hj ⊢;exact h2 j c hj
  ·simp at h
theorem ua:∀{n:Nat} {l r:List (List AV)},gD g n l=some r->r.length=l.length/\∀(j:Nat) (b:List AV),r[j]? =some b->∃a,l[j]? =some a/\er g n a=some b
 |n,[],r,h=>by
  rw[gD]at h;simp at h;subst h;simp
 |n,a::l,r,h=>by
  rw[gD]at h
  split at h
  ·rename_i b hb
   simp only[Option.map_eq_some_iff]at h
   obtain⟨r',hr,rfl⟩:=h
   obtain⟨h1,h2⟩:=ua hr
   refine⟨by simp[h1],fun j c hj=>?_⟩
   cases j with
   |zero=>simp at hj;subst hj;exact⟨a,rfl,hb⟩
   |succ j=>simp at hj ⊢;exact h2 j c hj
  ·simp at h
theorem HB (vT:∀id row,g id=some row->row.w=true->∃B,ι id=some B/\im P w D ι B row/\D2 B.b):∀(n:Nat) (a:AV) (u:Value) (r:AV),dm P w D ι a u->gq g n a=some r->dm P w D2 ι2 r u/\(a.cell=true->ke P w D2 r u/\r.cell=true):=by
 intro n
 induction n with
 |zero=>intro a u r _ h;rw[gq]at h;simp at h
 |succ n ih=>
  intro a u r hr h
  have both:∀{r:AV},ke P w D2 r u->r.cell=true->dm P w D2 ι2 r u/\(a.cell=true->ke P w D2 r u/\r.cell=true):=fun h1 h2=>⟨.fa _ _ h1,fun _=>⟨h1,h2⟩⟩
  cases a with
  |map id m=>rw[gq]at h<;>simp_all
  |tj id=>rw[gq]at h<;>simp_all
  |own id off len=>
   rw[gq]at h
   split at h
   ·rename_i row hg
    split at h
    ·rename_i hw
     split at h
     ·rename_i hle
      simp only[Option.map_eq_some_iff]at h
      obtain⟨rows,sq,rfl⟩:=h
      obtain⟨B,hB,R,Qh⟩:=vT id row hg hw
      obtain⟨o,cap,B',rfl,eb,h1,h2,h3,h4,hk⟩:=iq hr
      rw[hB]at eb;injection eb with eb;subst eb
      replace R:=R.row hk
      obtain⟨l1,l2⟩:=ua sq
      have hlen:rows.length=len:=by rw[l1];simp;omega
      by_cases h0:rows=[]
      ·subst h0
       simp at hlen;subst hlen
       exact both (.DI _ _ h4) rfl
      ·have hlp:0<len:=by rw[<-hlen];exact List.length_pos_iff.2 h0
       have ho:o=off*B.sz:=by rcases h2 with h2|h2<;>omega
       have src:∀i cs,rows[i]? =some cs->∃c0,row.rows[off+i]? =some c0/\er g n c0=some cs:=fun i cs hi=>by
        obtain⟨c0,jO,hf⟩:=l2 i cs hi
        rw[List.getElem?_take]at jO
        split at jO
        ·rw[List.getElem?_drop]at jO;exact⟨c0,jO,hf⟩
        ·simp at jO
       have cell:∀i j,i<len->j<row.sz->∃c0 a0 v,row.rows[off+i]? =some c0/\c0[j]? =some a0/\w.cell? ⟨B.b,o+(i*row.sz+j),none⟩=some v/\dm P w D ι a0 v:=fun i j hi hj=>by
        have rP:off+i<row.rows.length:=by omega
        have e1:=List.getElem?_eq_getElem rP
        have Mb:j<row.rows[off+i].length:=by rw[R.len _ (List.getElem_mem rP)];exact hj
        obtain⟨v,hv,lN⟩:=R.at_ _ _ _ _ e1 (List.getElem?_eq_getElem Mb)
        refine⟨_,_,v,e1,List.getElem?_eq_getElem Mb,?_,lN⟩
        rw[ho,R.sz,<-hv]
        congr 2
        rw[Nat.add_mul];omega
       refine both (.sl rows B.b o len cap row.sz (fun i j=>(w.cell? ⟨B.b,o+(i*row.sz+j),none⟩).getD undef) hlen h1 h4 Qh (fun cs dz=>?_) (fun cs dz b hb=>?_) (fun i j hi hj=>?_) (fun i j cs b hi hj=>?_)) rfl
       ·obtain⟨i,hi,rfl⟩:=List.getElem_of_mem dz
        obtain⟨c0,jO,hf⟩:=src i _ (List.getElem?_eq_getElem hi)
        rw[(jb hf).1];exact R.len c0 (List.mem_of_getElem? jO)
       ·obtain⟨i,hi,rfl⟩:=List.getElem_of_mem dz
        obtain⟨c0,jO,hf⟩:=src i _ (List.getElem?_eq_getElem hi)
        obtain⟨j,hj,rfl⟩:=List.getElem_of_mem hb
        obtain⟨a0,lL,HJ⟩:=(jb hf).2 j _ (List.getElem?_eq_getElem hj)
        obtain⟨v,_,lN⟩:=R.at_ _ _ _ _ jO lL
        exact((ih _ _ _ lN HJ).2 (R.flat c0 (List.mem_of_getElem? jO) a0 (List.mem_of_getElem? lL))).2
       ·obtain⟨c0,a0,v,_,_,hv,_⟩:=cell i j hi hj
        simp only[hv,Option.getD_some]
       ·obtain⟨c0,jO,hf⟩:=src i cs hi
        obtain⟨a0,lL,HJ⟩:=(jb hf).2 j b hj
        have mj:i<len:=by rw[<-hlen];exact(List.getElem?_eq_some_iff.1 hi).1
        have gT:j<row.sz:=by rw[<-R.len c0 (List.mem_of_getElem? jO)];exact(List.getElem?_eq_some_iff.1 lL).1
        obtain⟨c1,a1,v,e1,e2,hv,lN⟩:=cell i j mj gT
        rw[jO]at e1;injection e1 with e1;subst e1
        rw[lL]at e2;injection e2 with e2;subst e2
        simp only[hv,Option.getD_some]
        exact((ih _ _ _ lN HJ).2 (R.flat c0 (List.mem_of_getElem? jO) a0 (List.mem_of_getElem? lL))).1
     ·simp at h
    ·simp at h
   ·simp at h
  |ptr id i off=>
   rw[gq]at h
   split at h
   ·rename_i row hg
    split at h
    ·rename_i hw
     split at h
     ·rename_i c0 jO
      simp only[Option.map_eq_some_iff]at h
      obtain⟨cs,dz,rfl⟩:=h
      obtain⟨B,hB,R,Qh⟩:=vT id row hg hw
      obtain⟨B',rfl,eb,hk⟩:=iY hr
      rw[hB]at eb;injection eb with eb;subst eb
      replace R:=R.row hk
      obtain⟨l1,l2⟩:=jb dz
      have at_:∀j b,cs[j]? =some b->∃a0 v,w.cell? ⟨B.b,i*B.sz+off+j,none⟩=some v/\dm P w D ι a0 v/\a0.cell=true/\gq g n a0=some b:=fun j b hj=>by
       obtain⟨a0,lL,hf⟩:=l2 j b hj
       rw[List.getElem?_drop]at lL
       obtain⟨v,hv,lN⟩:=R.at_ _ _ _ _ jO lL
       refine⟨a0,v,?_,lN,R.flat c0 (List.mem_of_getElem? jO) a0 (List.mem_of_getElem? lL),hf⟩
       rw[R.sz,Nat.add_assoc];exact hv
      refine both (.dp cs B.b _ (fun j=>(w.cell? ⟨B.b,i*B.sz+off+j,none⟩).getD undef) Qh (fun b hb=>?_) (fun j hj=>?_) (fun j b hj=>?_)) rfl
      ·obtain⟨j,hj,rfl⟩:=List.getElem_of_mem hb
       obtain⟨a0,v,_,lN,hc,hf⟩:=at_ j _ (List.getElem?_eq_getElem hj)
       exact((ih _ _ _ lN hf).2 hc).2
      ·obtain⟨a0,v,hv,_⟩:=at_ j _ (List.getElem?_eq_getElem hj)
       simp only[hv,Option.getD_some]
      ·obtain⟨a0,v,hv,lN,hc,hf⟩:=at_ j b hj
       simp only[hv,Option.getD_some]
       exact((ih _ _ _ lN hf).2 hc).1
     ·simp at h
    ·simp at h
   ·simp at h
  |agg cs=>
   rw[gq]at h
   simp only[Option.map_eq_some_iff]at h
   obtain⟨r',oE,rfl⟩:=h
   obtain⟨vs,f,rfl,h1,h2,h3,h4⟩:=iE hr
   obtain⟨l1,l2⟩:=jb oE
   have hI:ke P w D2 (.agg r') (.agg vs):=.agg r' vs f (by rw[h1,l1]) (fun b hb=>by
    obtain⟨j,hj,rfl⟩:=List.getElem_of_mem hb
    obtain⟨a0,lL,hf⟩:=l2 j _ (List.getElem?_eq_getElem hj)
    exact((ih _ _ _ (h4 j a0 lL) hf).2 (h2 a0 (List.mem_of_getElem? lL))).2) (fun j hj=>h3 j (by rw[<-l1];exact hj)) (fun j b hj=>by
    obtain⟨a0,lL,hf⟩:=l2 j b hj
    exact((ih _ _ _ (h4 j a0 lL) hf).2 (h2 a0 (List.mem_of_getElem? lL))).1)
   exact⟨.fa _ _ hI,fun hc=>by simp[AV.cell]at hc⟩
  |iA cs=>
   rw[gq]at h
   simp only[Option.map_eq_some_iff]at h
   obtain⟨r',oE,rfl⟩:=h
   obtain⟨vs,f,rfl,h1,h3,h4⟩:=vn hr
   obtain⟨l1,l2⟩:=jb oE
   exact⟨.iA r' vs f (by rw[h1,l1]) (fun j hj=>h3 j (by rw[<-l1];exact hj)) (fun j b hj=>by
    obtain⟨a0,lL,hf⟩:=l2 j b hj
    exact(ih _ _ _ (h4 j a0 lL) hf).1),fun hc=>by simp[AV.cell]at hc⟩
  |fn f dn=>rw[gq]at h<;>(try simp at h)<;>(try(intros;simp_all))
  |int k m=>rw[gq]at h<;>(try simp at h)<;>(try subst h)<;>(try(rw[dB hr];exact⟨.fa _ _ (.int _ _),fun _=>⟨.int _ _,rfl⟩⟩))<;>(try(intros;simp_all))
  |bool b=>rw[gq]at h<;>(try simp at h)<;>(try subst h)<;>(try(rw[fu hr];exact⟨.fa _ _ (.bool _),fun _=>⟨.bool _,rfl⟩⟩))<;>(try(intros;simp_all))
  |str b=>rw[gq]at h<;>(try simp at h)<;>(try subst h)<;>(try(rw[fV hr];exact⟨.fa _ _ (.str _),fun _=>⟨.str _,rfl⟩⟩))<;>(try(intros;simp_all))
  |cj=>rw[gq]at h<;>(try simp at h)<;>(try subst h)<;>(try(rw[iS hr];exact⟨.fa _ _ .cj,fun _=>⟨.cj,rfl⟩⟩))<;>(try(intros;simp_all))
  |jC=>rw[gq]at h<;>(try simp at h)<;>(try subst h)<;>(try(rw[xq hr];exact⟨.fa _ _ .jC,fun _=>⟨.jC,rfl⟩⟩))<;>(try(intros;simp_all))
  |jJ=>rw[gq]at h<;>(try simp at h)<;>(try subst h)<;>(try(rw[C9 hr];exact⟨.fa _ _ .jJ,fun _=>⟨.jJ,rfl⟩⟩))<;>(try(intros;simp_all))
  |vh f dn=>rw[gq]at h<;>(try simp at h)<;>(try(intros;simp_all))
  |il=>rw[gq]at h<;>(try simp at h)<;>(try subst h)<;>(try(cases hr with|fa _ _ hr=>cases hr;exact both .il rfl))<;>(try(intros;simp_all))
  |sl rows=>rw[gq]at h<;>(try simp at h)<;>(try(intros;simp_all))
  |dp cs=>rw[gq]at h<;>(try simp at h)<;>(try(intros;simp_all))
end
end Go.Proofs.YtgoljkjaameagaaGreat.V

namespace Go.Proofs.YtgoljkjaameagaaGreat.V
open Go.RowKit
variable {P:Program} {w w':World} {D D':Nat->Prop} {ι ι':Names}
section
variable {g:Rows} {hs:Nat} {env:Env} {a:Act} {o:Oper} {id:Id} {v:AV}
theorem gw.IU (S:gw P hs D ι g w) {i:Id} {r r':Row} {B:s4} {ob:Obj} (hid:g i=some r) (hw:r.w=true) (hB:ι i=some B)
  (hR:(∀a v,dm P w D ι a v->dm P {w with heap:=w.heap.setIfInBounds B.b ob} D ι a v)->(w.heap.setIfInBounds B.b ob)[B.b]? =some ob->im P {w with heap:=w.heap.setIfInBounds B.b ob} D ι B r'):
  gw P hs D ι (bL g i r') {w with heap:=w.heap.setIfInBounds B.b ob}/\Step hs D ι w D ι {w with heap:=w.heap.setIfInBounds B.b ob}:=by
 obtain⟨B0,xR,R,jQ,lg⟩:=S.row i r hid
 rw[hB]at xR;injection xR with xR;subst xR
 have other:∀b,b≠B.b->(w.heap.setIfInBounds B.b ob)[b]? =w.heap[b]? :=fun b hb=>by simp[Ne.symm hb]
 have hd:∀b,D b->(w.heap.setIfInBounds B.b ob)[b]? =w.heap[b]? :=fun b hb=>other b (by rintro rfl;exact lg hw hb)
 have hr:∀a v,dm P w D ι a v->dm P {w with heap:=w.heap.setIfInBounds B.b ob} D ι a v:=fun a v h=>h.frame hd (fun _ h=>h) (fun _ _ h=>h)
 refine⟨⟨by simpa using S.lo,fun b hb=>by simpa using S.dead b hb,fun j q h=>?_,fun j j' q q' C C' h h' T3 hC Ac he=>?_⟩,⟨⟨rfl,rfl,rfl,by simp,fun k hk=>other k (by have:=jQ hw;omega)⟩,hd,fun _ h=>h,fun _ _ h=>h,fun _ h=>.inl h⟩⟩
 ·unfold bL at h
  split at h
  ·rename_i e
   subst e
   injection h with h;subst h
   exact⟨B,hB,hR hr (by simp[R.lt]),fun _=>jQ hw,fun _=>lg hw⟩
  ·rename_i e
   obtain⟨C,hC,RC,k1,k2⟩:=S.row j q h
   refine⟨C,hC,RC.frame (other C.b (fun OZ=>e ?_)) hr,k1,k2⟩
   exact(S.inj i j r q B C hid h hw hB hC OZ.symm).symm
 ·unfold bL at h h'
  have get:∀j p,(if j=i then some r' else g j)=some p->∃p0,g j=some p0/\(p.w=true->p0.w=true):=fun j p hp=>by
   split at hp
   ·rename_i e;subst e;injection hp with hp;subst hp;exact⟨r,hid,fun _=>hw⟩
   ·exact⟨p,hp,fun h=>h⟩
  obtain⟨p,hp,Sm⟩:=get _ _ h
  obtain⟨p',QO,_⟩:=get _ _ h'
  exact S.inj j j' p p' C C' hp QO (Sm T3) hC Ac he
theorem Gb {s:TS} {x y:AV} {u v:Value} (he:fC s x y=some true) (hx:dm P w D ι x u) (hy:dm P w D ι y v):u=v/\∀n,Instr.sameBits n u v=true:=by
 unfold fC at he
 split at he
 ·split at he
  ·rename_i hk
   subst hk
   simp at he;subst he
   rw[dB hx,dB hy]
   exact⟨rfl,fun n=>by cases n<;>simp[Instr.sameBits]⟩
  ·cases he
 ·simp at he;subst he
  rw[fu hx,fu hy]
  exact⟨rfl,fun n=>by cases n<;>simp[Instr.sameBits]⟩
 ·simp at he;subst he
  rw[fV hx,fV hy]
  exact⟨rfl,fun n=>by cases n<;>simp[Instr.sameBits,Jv]⟩
 ·cases he
theorem BV {n:Nat}:∀{ts:List TS} {xs ys:List AV} {vs us:List Value},eY ts xs ys=some true->vs.length=xs.length->us.length=ys.length->(∀(j:Nat) (a:AV),xs[j]? =some a->∃u,vs[j]? =some u/\dm P w D ι a u)->(∀(j:Nat) (a:AV),ys[j]? =some a->∃u,us[j]? =some u/\dm P w D ι a u)->
  us.length=vs.length/\(us.zip vs).all (fun p=>Instr.sameBits n p.1 p.2)=true
 |[],[],[],vs,us,_,h1,h2,_,_=>by
  cases vs<;>cases us<;>simp_all
 |[],x::xs,ys,vs,us,h,_,_,_,_=>by simp[eY]at h
 |[],[],y::ys,vs,us,h,_,_,_,_=>by simp[eY]at h
 |t::ts,[],ys,vs,us,h,_,_,_,_=>by simp[eY]at h
 |t::ts,x::xs,[],vs,us,h,_,_,_,_=>by simp[eY]at h
 |t::ts,x::xs,y::ys,[],us,h,h1,_,_,_=>by simp at h1
 |t::ts,x::xs,y::ys,v::vs,[],h,_,h2,_,_=>by simp at h2
 |t::ts,x::xs,y::ys,v::vs,u::us,h,h1,h2,hx,hy=>by
  unfold eY at h
  split at h
  ·rename_i a b ha hb
   simp only[Option.some.injEq,Bool.and_eq_true]at h
   obtain⟨rfl,rfl⟩:=h
   obtain⟨v',ox,rv⟩:=hx 0 x rfl
   obtain⟨u',Gu,ru⟩:=hy 0 y rfl
   simp at ox Gu;subst ox;subst Gu
   obtain⟨e1,e2⟩:=Gb ha rv ru
   obtain⟨q1,q2⟩:=BV (n:=n) hb (by simpa using h1) (by simpa using h2) (fun j a hj=>by simpa using hx (j+1) a (by simpa using hj)) (fun j a hj=>by simpa using hy (j+1) a (by simpa using hj))
   refine⟨by simp[q1],?_⟩
   simp only[List.zip_cons_cons,List.all_cons,q2,Bool.and_true]
   rw[<-e1]
   have:=e2 n
   rw[<-e1]at this
   exact this
  ·cases h
theorem CV {m:MK} {key:List AV}:∀{rows:List (List AV)} {i j:Nat},gr m key rows i=some (some j)->∃cs,i<=j/\rows[j-i]? =some cs/\eY m.ts key (cs.take m.ks)=some true
 |[],i,j,h=>by simp[gr]at h
 |cs::rows,i,j,h=>by
  unfold gr at h
  split at h
  ·rename_i hq
   simp at h;subst h
   exact⟨cs,Nat.le_refl _,by simp,hq⟩
  ·obtain⟨c,h1,h2,h3⟩:=CV h
   exact⟨c,by omega,by rw[show j-i=(j-(i+1))+1 by omega];simpa using h2,h3⟩
  ·cases h
theorem w7 {m:MK} {k:AV} {rows:List (List AV)} {fi:Option Nat} (h:gm m k rows=some fi):k.isAgg=m.ka/\k.cells.length=m.ks/\(k.cells.all AV.cell=true)/\gr m k.cells rows 0=some fi:=by
 unfold gm at h
 split at h
 ·rename_i hc;exact⟨hc.1,hc.2.1,hc.2.2,h⟩
 ·cases h
theorem K9 {m:MK} {k y:AV} (h1:k.isAgg=m.ka) (h2:k.cells.length=m.ks):part m.ka m.ks (k.cells++[y])=some k/\(k.cells++[y])[m.ks]? =some y:=by
 refine⟨?_,by rw[List.getElem?_append_right (by omega),h2,Nat.sub_self];rfl⟩
 cases hk:m.ka with
 |false=>
  rw[hk]at h1
  rw[wb h1];rfl
 |true=>
  rw[hk]at h1
  cases k<;>simp[AV.isAgg]at h1
  rename_i cs
  simp only[AV.cells]at h2 ⊢
  simp only[part,if_true]
  rw[if_pos (by simp;omega),<-h2,List.take_left']
  rfl
theorem stays {k:TypeId} {m:MK} (hK:FW P k m) {key kv:AV} {u C2:Value} {cs:List AV} (h1:key.isAgg=m.ka) (hr:dm P w D ι key u) (hp:part m.ka m.ks cs=some kv) (ho:dm P w D ι kv C2) (he:eY m.ts key.cells (cs.take m.ks)=some true):(Instr.keyThatStays C2 u).run P w=.ok u w:=by
 have hs:Instr.sameBits 10000 C2 u=true:=by
  rcases hK with⟨s,rfl,hs⟩|⟨fs,ts,rfl,sk,ym,eu,eh⟩
  ·rw[wb h1]at he
   cases cs with
   |nil=>simp[part]at hp
   |cons c l=>
    simp[part]at hp;subst hp
    simp only[MK.ks,List.length_cons,List.length_nil,Nat.zero_add,List.take_succ_cons,List.take_zero,eY]at he
    cases hq:fC s key c with
    |none=>rw[hq]at he;simp at he
    |some b=>
     rw[hq]at he;simp at he;subst he
     obtain⟨e1,e2⟩:=Gb hq hr ho
     rw[<-e1]
     have:=e2 10000
     rwa [<-e1]at this
  ·cases key<;>simp[AV.isAgg]at h1
   rename_i ks
   simp only[part,if_true]at hp
   split at hp
   ·simp only[Option.some.injEq]at hp;subst hp
    obtain⟨vs,rfl,n1,r1⟩:=sK hr
    obtain⟨us,rfl,n2,r2⟩:=sK ho
    obtain⟨q1,q2⟩:=BV (n:=9999) (vs:=vs.toList) (us:=us.toList) he (by simpa[AV.cells]using n1) (by simpa using n2) (fun j a hj=>by simpa using r1 j a hj) (fun j a hj=>by simpa using r2 j a hj)
    simp only[Instr.sameBits,Bool.and_eq_true,beq_iff_eq]
    exact⟨by simpa using q1,q2⟩
   ·cases hp
 simp[Instr.keyThatStays,hs]
theorem Ls {es:Array MapEntry} {clock:Nat} (h:G6 es clock) (k v:Value):G6 (es.push ⟨k,v,clock⟩) (clock+1):=by
 refine⟨fun x hx=>?_,?_⟩
 ·simp only[Array.toList_push,List.mem_append,List.mem_singleton]at hx
  rcases hx with hx|rfl
  ·have:=h.1 x hx;omega
  ·exact Nat.lt_succ_self _
 ·simp only[Array.toList_push,List.map_append,List.map_cons,List.map_nil]
  refine List.nodup_append.2 ⟨h.2,by simp,fun a ha b hb=>?_⟩
  obtain⟨x,hx,rfl⟩:=List.mem_map.1 ha
  simp at hb;subst hb
  have:=h.1 x hx;omega
theorem FE {es:Array MapEntry} {clock:Nat} (h:G6 es clock) (j:Nat) (k v:Value):G6 (es.modify j fun e=>{e with key:=k,val:=v}) clock:=by
 have e:(es.modify j fun e=>{e with key:=k,val:=v}).toList.map (·.born)=es.toList.map (·.born):=by
  refine List.ext_getElem? fun i=>?_
  simp only[List.getElem?_map,Array.getElem?_toList,Array.getElem?_modify]
  split
  ·cases es[i]? <;>rfl
  ·rfl
 refine⟨fun x hx=>?_,by rw[e];exact h.2⟩
 have hb:x.born∈(es.modify j fun e=>{e with key:=k,val:=v}).toList.map (·.born):=List.mem_map_of_mem hx
 rw[e]at hb
 obtain⟨y,hy,hyb⟩:=List.mem_map.1 hb
 rw[<-hyb];exact h.1 y hy
theorem IF {es:Array MapEntry} {clock:Nat} (h:G6 es clock) {j:Nat} (hj:j<es.size):G6 (es.eraseIdxIfInBounds j) clock:=by
 have e:(es.eraseIdxIfInBounds j).toList=es.toList.eraseIdx j:=by
  unfold Array.eraseIdxIfInBounds
  rw[dif_pos hj,Array.toList_eraseIdx]
 refine⟨fun x hx=>h.1 x ((List.eraseIdx_sublist _ _).subset (by rwa [e]at hx)),?_⟩
 rw[e]
 exact((List.eraseIdx_sublist es.toList j).map (·.born)).nodup h.2
theorem B5 {k y:AV} (h1:k.cells.all AV.cell=true) (h2:y.cell=true):∀a∈k.cells++[y],a.cell=true:=fun a ha=>by
 rcases List.mem_append.1 ha with ha|ha
 ·exact List.all_eq_true.1 h1 a ha
 ·rw[List.mem_singleton.1 ha];exact h2
theorem PY {t:TypeId} {x k y:Operand} {m:MK} {z:K} {x' k' y':O} {g':Rows} (S:gw P hs D ι g w) (E:cX P w D ι env a) (ho:o.op=.mapUpdate t x k y∨o.op=.insert t x k y) (hc:tf P t=some (m,z)) (hx:cO P x=some x') (hk:cO P k=some k') (hy:cO P y=some y')
  (hv:bz (.set m) [dd env x',dd env k',dd env y'] g=some g'):DL P hs a o w D ι id .undef g':=by
 obtain⟨kt,e,i,zv,ht,hi,wL,Vp,hK⟩:=r5 hc
 simp only[bz,Option.bind_eq_some_iff]at hv
 obtain⟨p,hp,fi,Gp,hv⟩:=hv
 split at hv
 ·rename_i hcond
  obtain⟨hw,hyc,_⟩:=hcond
  simp only[Option.some.injEq]at hv;subst hv
  obtain⟨B,hu,hg,hB,uX,es,clock,hb,fo,hlen,hM⟩:=AA S (dw E hx) hp
  have rk:=dw E hk
  have ry:=dw E hy
  obtain⟨L5,res,hf,hF⟩:=wi (B:=B) hK rk fo hM Gp
  obtain⟨k1,k2,k3,k4⟩:=w7 Gp
  obtain⟨B',eb,R,_⟩:=S.row p.1 p.2 hg
  rw[hB]at eb;injection eb with eb;subst eb
  obtain⟨pk1,pk2⟩:=K9 (y:=dd env y') k1 k2
  have eT:(getObj B.b).run P w=.ok (.map es clock) w:=MapKept.run_getObj_map hb
  rcases hF with⟨rfl,rfl⟩|⟨j,en,rfl,he,rfl⟩
  ·have ot:=S.IU (ob:=.map (es.push ⟨a.eval k,a.eval y,clock⟩) (clock+1)) (r':={p.2 with rows:=dD p.2.rows ((dd env k').cells++[dd env y']) none}) hg hw hB fun hr lh=>⟨R.sz,fun cs dz=>?_,fun ue=>(by rw[uX]at ue;cases ue),fun m' Cj=>?_,fun c hc=>(by rw[uX]at hc;cases hc)⟩
   ·refine⟨undef,_,ι,.inr ⟨?_,rfl⟩,ot.2,ot.1,dm.undef,fun _ _=>rfl⟩
    rcases ho with ho|ho<;>
    ·simp only[execOp,ho,Instr.mapUpdate,hu,Sem.run_bind,run_underlying ht,Result.andThen_ok,eT,L5,hf,MapKept.run_setObj_map _ hb,Sem.run_pure]
   ·rcases List.mem_append.1 dz with h|h
    ·exact R.flat cs h
    ·rw[List.mem_singleton.1 h];exact B5 k3 hyc
   ·rw[uX]at Cj;simp only[Option.some.injEq,BK.map.injEq]at Cj;subst Cj
    refine⟨(R.map m uX).1,_,_,lh,by simp[dD,fo],⟨fun cs dz=>?_,Ls hlen.2 _ _⟩,fun q cs hq=>?_⟩
    ·rcases List.mem_append.1 dz with h|h
     ·exact hlen.1 cs h
     ·rw[List.mem_singleton.1 h];simp[k2]
    ·rcases Nat.lt_or_ge q p.2.rows.length with eo|rj
     ·simp only[dD]at hq
      rw[List.getElem?_append_left eo]at hq
      obtain⟨en,kv,vv,q1,q2,q3,q4,q5⟩:=hM q cs hq
      exact⟨en,kv,vv,by rw[Array.getElem?_push_lt (by omega)];rw[Array.getElem?_eq_getElem (by omega)]at q1;simpa using q1,q2,q3,hr _ _ q4,hr _ _ q5⟩
     ·simp only[dD]at hq
      rw[List.getElem?_append_right rj]at hq
      have hq0:q=p.2.rows.length:=by
       have:=(List.getElem?_eq_some_iff.1 hq).1
       simp at this;omega
      subst hq0
      simp at hq;subst hq
      exact⟨⟨a.eval k,a.eval y,clock⟩,_,_,by rw[<-fo];simp,pk1,pk2,hr _ _ rk,hr _ _ ry⟩
  ·simp only[Nat.zero_add]at k4 Gp hf ⊢
   obtain⟨R5,_,M1,heq⟩:=CV k4
   simp only[Nat.sub_zero]at M1
   obtain⟨We,kv,vv,q1,q2,_,q4,_⟩:=hM j R5 M1
   have EG:We=en:=by
    have h1:es.toList[j]? =some We:=by simpa using q1
    rw[he]at h1;injection h1 with h1;exact h1.symm
   subst EG
   have eu:=stays (w:=w) hK k1 rk q2 q4 heq
   have ot:=S.IU (ob:=.map (es.modify j fun e=>{e with key:=a.eval k,val:=a.eval y}) clock) (r':={p.2 with rows:=dD p.2.rows ((dd env k').cells++[dd env y']) (some j)}) hg hw hB fun hr lh=>⟨R.sz,fun cs dz=>?_,fun ue=>(by rw[uX]at ue;cases ue),fun m' Cj=>?_,fun c hc=>(by rw[uX]at hc;cases hc)⟩
   ·refine⟨undef,_,ι,.inr ⟨?_,rfl⟩,ot.2,ot.1,dm.undef,fun _ _=>rfl⟩
    rcases ho with ho|ho<;>
    ·simp only[execOp,ho,Instr.mapUpdate,hu,Sem.run_bind,run_underlying ht,Result.andThen_ok,eT,L5,hf,q1,Option.map_some,Option.getD_some,eu,MapKept.run_setObj_map _ hb,Sem.run_pure]
   ·rcases List.mem_or_eq_of_mem_set dz with h|h
    ·exact R.flat cs h
    ·rw[h];exact B5 k3 hyc
   ·rw[uX]at Cj;simp only[Option.some.injEq,BK.map.injEq]at Cj;subst Cj
    have gT:=(List.getElem?_eq_some_iff.1 M1).1
    refine⟨(R.map m uX).1,_,_,lh,by simp[dD,fo],⟨fun cs dz=>?_,FE hlen.2 _ _ _⟩,fun q cs hq=>?_⟩
    ·rcases List.mem_or_eq_of_mem_set dz with h|h
     ·exact hlen.1 cs h
     ·rw[h];simp[k2]
    ·simp only[dD,List.getElem?_set]at hq
     split at hq
     ·rename_i Sf
      subst Sf
      (try rw[if_pos gT]at hq)
      injection hq with hq;subst hq
      exact⟨{We with key:=a.eval k,val:=a.eval y},_,_,by rw[Array.getElem?_modify];simp[q1],pk1,pk2,hr _ _ rk,hr _ _ ry⟩
     ·rename_i Sf
      obtain⟨en,kv,vv,q1,q2,q3,q4,q5⟩:=hM q cs hq
      exact⟨en,kv,vv,by rw[Array.getElem?_modify];simp[Sf,q1],q2,q3,hr _ _ q4,hr _ _ q5⟩
 ·cases hv
theorem PX {t t':TypeId} {x k:Operand} {m:MK} {z:K} {x' k':O} {g':Rows} (S:gw P hs D ι g w) (E:cX P w D ι env a) (ho:o.op=.call {callee:=.builtin .delete,args:= #[x,k],argTypes:= #[t,t']}) (hc:tf P t=some (m,z)) (hx:cO P x=some x') (hk:cO P k=some k')
  (hv:bz (.del m) [dd env x',dd env k'] g=some g'):DL P hs a o w D ι id .undef g':=by
 obtain⟨kt,e,i,zv,ht,hi,wL,Vp,hK⟩:=r5 hc
 simp only[bz,Option.bind_eq_some_iff]at hv
 obtain⟨p,hp,fi,Gp,hv⟩:=hv
 split at hv
 ·rename_i hw
  simp only[Option.some.injEq]at hv;subst hv
  obtain⟨B,hu,hg,hB,uX,es,clock,hb,fo,hlen,hM⟩:=AA S (dw E hx) hp
  have rk:=dw E hk
  obtain⟨L5,res,hf,hF⟩:=wi (B:=B) hK rk fo hM Gp
  obtain⟨k1,k2,k3,k4⟩:=w7 Gp
  obtain⟨B',eb,R,_⟩:=S.row p.1 p.2 hg
  rw[hB]at eb;injection eb with eb;subst eb
  have eT:(getObj B.b).run P w=.ok (.map es clock) w:=MapKept.run_getObj_map hb
  have go:∀ob,(Builtin.delete_ #[t,t'] o.type #[a.eval x,a.eval k]).run P w=.ok (.tuple #[]) {w with heap:=w.heap.setIfInBounds B.b ob}->(execOp a.eval o).run P w=.ok (.value undef) {w with heap:=w.heap.setIfInBounds B.b ob}:=fun ob h=>by
   simp only[execOp,ho,resolve,Sem.run_bind,Sem.run_pure,Result.andThen_ok,invoke,builtin,Array.map]
   simp[h,undef]
  rcases hF with⟨rfl,rfl⟩|⟨j,en,rfl,he,rfl⟩
  ·have ot:=S.IU (ob:=.map es clock) (r':={p.2 with rows:=dI p.2.rows none}) hg hw hB fun hr lh=>⟨R.sz,R.flat,fun ue=>(by rw[uX]at ue;cases ue),fun m' Cj=>?_,fun c hc=>(by rw[uX]at hc;cases hc)⟩
   ·refine⟨undef,_,ι,.inl (go _ ?_),ot.2,ot.1,dm.undef,fun _ _=>rfl⟩
    simp[Builtin.delete_,hu,run_underlying ht,eT,L5,hf,MapKept.run_setObj_map _ hb]
   ·rw[uX]at Cj;simp only[Option.some.injEq,BK.map.injEq]at Cj;subst Cj
    exact⟨(R.map m uX).1,_,_,lh,fo,hlen,fun q cs hq=>by
     obtain⟨en,kv,vv,q1,q2,q3,q4,q5⟩:=hM q cs hq
     exact⟨en,kv,vv,q1,q2,q3,hr _ _ q4,hr _ _ q5⟩⟩
  ·simp only[Nat.zero_add]at hf ⊢
   have gT:j<es.size:=by have:=(List.getElem?_eq_some_iff.1 he).1;simpa using this
   have ot:=S.IU (ob:=.map (es.eraseIdxIfInBounds j) clock) (r':={p.2 with rows:=dI p.2.rows (some j)}) hg hw hB fun hr lh=>⟨R.sz,fun cs dz=>R.flat cs (List.mem_of_mem_eraseIdx dz),fun ue=>(by rw[uX]at ue;cases ue),fun m' Cj=>?_,fun c hc=>(by rw[uX]at hc;cases hc)⟩
   ·refine⟨undef,_,ι,.inl (go _ ?_),ot.2,ot.1,dm.undef,fun _ _=>rfl⟩
    simp[Builtin.delete_,hu,run_underlying ht,eT,L5,hf,MapKept.run_setObj_map _ hb]
   ·rw[uX]at Cj;simp only[Option.some.injEq,BK.map.injEq]at Cj;subst Cj
    have he2:∀q,(es.eraseIdxIfInBounds j)[q]? =(es.toList.eraseIdx j)[q]? :=fun q=>by
     unfold Array.eraseIdxIfInBounds
     rw[dif_pos gT,<-Array.getElem?_toList,Array.toList_eraseIdx]
    refine⟨(R.map m uX).1,_,_,lh,by simp[dI,Array.eraseIdxIfInBounds,gT,List.length_eraseIdx,<-fo],⟨fun cs dz=>hlen.1 cs (List.mem_of_mem_eraseIdx dz),IF hlen.2 gT⟩,fun q cs hq=>?_⟩
    simp only[dI,List.getElem?_eraseIdx]at hq
    split at hq
    ·rename_i eo
     obtain⟨en,kv,vv,q1,q2,q3,q4,q5⟩:=hM q cs hq
     exact⟨en,kv,vv,by rw[he2,List.getElem?_eraseIdx,if_pos eo];simpa using q1,q2,q3,hr _ _ q4,hr _ _ q5⟩
    ·rename_i eo
     obtain⟨en,kv,vv,q1,q2,q3,q4,q5⟩:=hM (q+1) cs hq
     exact⟨en,kv,vv,by rw[he2,List.getElem?_eraseIdx,if_neg eo];simpa using q1,q2,q3,hr _ _ q4,hr _ _ q5⟩
 ·cases hv
end
end Go.Proofs.YtgoljkjaameagaaGreat.V
