/- A small language in which the program's functions are read by value: its values, its operations, its code, and how the program's code is brought into it. -/
import Derived.WalkKit
import Derived.WalkSpells
import Derived.WalkLawsBesides
import Derived.Lib.Hide
import Derived.Great.BuildSlice
import Derived.Conc.LoneCalls
import Derived.MapKept
import Derived.WideKeyRuns
set_option linter.unusedVariables false
set_option linter.unusedSimpArgs false
set_option maxRecDepth 100000
set_option maxHeartbeats 16000000
namespace Go.Proofs.YtgoljkjaameagaaGreat.V
open Go.RowKit
structure Id where
  site:Nat
  bt:Nat
  deriving DecidableEq,Repr
inductive TS where
  |tI|tB|tS
  deriving Repr,DecidableEq
structure MK where
  ka:Bool
  ts:List TS
  deriving Repr,DecidableEq
inductive AV where
  |int (k:IntKind) (n:Int)
  |bool (b:Bool)
  |str (s:ByteArray)
  |cq|gW|jJ
  |sl (rows:List (List AV))
  |own (id:Id) (off len:Nat)
  |ptr (id:Id) (i off:Nat)
  |dd (cs:List AV)
  |agg (cs:List AV)
  |im (vs:List AV)
  |fn (f:Nat) (cX:List AV)
  |map (id:Id) (m:MK)
  |jS
  |ui (f:Nat) (first:List AV)
  |sP (id:Id)
  deriving Inhabited
def AV.undef:AV:=.im []
def AV.cell:AV->Bool
  | .agg _| .im _=>false
  |_=>true
def AV.cells:AV->List AV
  | .agg cs=>cs
  |v=>[v]
inductive K where
  |int (k:IntKind) (n:Int)
  |bool (b:Bool)
  |str (l:List UInt8)
  |cq|gW|jJ|jS
  deriving Repr,DecidableEq
def K.val:K->Value
  | .int k n=>.int k n
  | .bool b=>.bool b
  | .str l=>.string ⟨l.toArray⟩
  | .cq=>.slice none 0 0
  | .gW=>.pointer none
  | .jJ=>.nilFunc
  | .jS=>.map none
def K.av:K->AV
  | .int k n=>.int k n
  | .bool b=>.bool b
  | .str l=>.str ⟨l.toArray⟩
  | .cq=>.cq
  | .gW=>.gW
  | .jJ=>.jJ
  | .jS=>.jS
def Fk:Value->Option K
  | .int k n=>some (.int k n)
  | .bool b=>some (.bool b)
  | .string s=>some (.str s.data.toList)
  | .slice none 0 0=>some .cq
  | .pointer none=>some .gW
  | .nilFunc=>some .jJ
  | .map none=>some .jS
  |_=>none
inductive O where
  |t (n:Nat)
  |k (c:K)
  |ka (cs:List K)
  |f (n:Nat)
  deriving Repr,DecidableEq
inductive MQ where
  |new (m:MK)
  |look (m:MK) (ok:Bool) (zero:K)
  |len (m:MK)
  deriving Repr,DecidableEq
inductive MW where
  |set (m:MK)
  |del (m:MK)
  deriving Repr,DecidableEq
inductive fU where
  |de (x:O)
  |pick (c a b:O)
  |new (zero:List K)
  |box (x:O)
  |build (zero:List K) (parts:List (Nat×Nat×O))
  |lT (sz len:Nat) (parts:List O)
  |load (agg:Bool) (n:Nat) (a:O)
  |store (n:Nat) (a x:O)
  |zt (x:O)
  |bin (op:BinOp) (k:IntKind) (x y:O)
  |sh (left:Bool) (x y:O)
  |Jp (op:BinOp) (x y:O)
  |L1 (neg:Bool) (t:TS) (x y:O)
  |Qs (neg:Bool) (ts:List TS) (x y:O)
  |OI (neg J5:Bool) (x:O)
  |Qt (neg:Bool) (x:O)
  |not (x:O)
  |neg (x:O)
  |conv (k:IntKind) (x:O)
  |Dv (x:O)
  |slice (sz:Nat) (x:O) (lo hi:Option O)
  |yG (x:O) (lo hi:Option O)
  |fM (off:Nat) (x:O)
  |field (agg:Bool) (off n:Nat) (x:O)
  |dC (sz:Nat) (x i:O)
  |JZ (len sz:Nat) (x i:O)
  |J2 (x i:O)
  |eC (agg:Bool) (len n:Nat) (x i:O)
  |extract (i:Nat) (x:O)
  |len (x:O)
  |Kb (x:O)
  |append (sz:Nat) (x y:O)
  |copy (sz:Nat) (x y:O)
  |clear (zero:List K) (x:O)
  |Ke (f:Nat) (cX:List O)
  |Kf (f:Nat) (first:List O)
  |jz (zero:List K) (len cap:O)
  |call (f:Nat) (args:List O)
  |rV (x:O) (args:List O)
  |mq (q:MQ) (xs:List O)
  |mw (q:MW) (xs:List O)
  |HU (x:O)
  |HN (x:O)
  |snd (x y:O)
  |Nc (x:O)
  |bad
  deriving Repr,DecidableEq
structure bf where
  dst:Option Nat
  op:fU
  guard:Option (Nat×Bool)
  site:Nat
  hid:List Nat
  deriving Repr,DecidableEq
def q (d:Nat) (op:fU) (s:Nat):bf:=⟨some d,op,none,s,[]⟩
inductive VC where
  |skip
  |eJ (draw:Bool) (ops:List bf)
  |seq (a b:VC)
  |cond (c:O) (x y:VC)
  |block (id:Nat) (c:VC)
  |loop (c:VC)
  |exit (id:Nat)
  |ret
  |one (o:bf) (c:VC)
  |both (a b:VC)
  |loc (t s:Nat) (y:O) (c:VC)
  |LW (ops:List bf)
  deriving Repr,DecidableEq
inductive ox where
  |tmp (t:Nat)
  |cell (agg:Bool) (n:Nat) (t:Nat)
  deriving Repr,DecidableEq
structure yU where
  ntmps:Nat
  w6:Nat
  body:VC
  res:List ox
  deriving Repr,DecidableEq
def fA (P:Program) (f:Nat):Bool:=
  match P.funcs[f]? with
  |some fn=>fn.body.isSome&& !(fn.name== "runtime.NumGoroutine")
  |none=>false
def cO (P:Program):Operand->Option O
  | .tmp t=>some (.t t)
  | .const (.agg cs)=>(cs.toList.mapM Fk).map O.ka
  | .const v=>(Fk v).map O.k
  | .global _=>none
  | .func f=>if fA P f then some (.f f)else none
def jj (P:Program) (t:TypeId):Option (List K):=
  match P.info? t with
  |some i=>match i.zero with
    |some v=>if v.cells.size=i.size then v.cells.toList.mapM Fk else none
    |none=>none
  |none=>none
def ec (P:Program) (t:TypeId):Option Nat:=(P.info? t).map (·.size)
def mL (P:Program) (t:TypeId):Option Bool:=
  match P.underlying t with
  |some (.struct _)|some (.array _ _)=>some true
  |some _=>some false
  |none=>none
inductive Ro where
  |sc (t:TS)|ag (ts:List TS)
  deriving Repr,DecidableEq
def eZ (P:Program) (t:TypeId):Option TS:=
  match P.underlying t with
  |some .bool=>some .tB
  |some (.int _)=>some .tI
  |some .string=>some .tS
  |_=>none
def BT (P:Program) (inner:List Field->Option (List TS)):Nat->List Field->Option (List TS)
  |_,[]=>some []
  |off,f::r=>
    if f.offset=off/\f.name≠ "_" then
      match eZ P f.type with
      |some t=>if mL P f.type=some false then(BT P inner (off+1) r).map (t::·)else none
      |none=>match P.underlying f.type with
        |some (.struct fs)=>if !P.stoodInHeld f.type then match inner fs.toList with
          |some ts=>if ec P f.type=some ts.length/\ts≠[]then(BT P inner (off+ts.length) r).map (ts++·)else none
          |none=>none else none
        |_=>none
    else none
def ew (P:Program):Nat->Nat->List Field->Option (List TS)
  |0,_,[]=>some []
  |0,_,_::_=>none
  |d+1,off,fs=>BT P (ew P d 0) off fs
def RD (P:Program) (t:TypeId):Option Ro:=
  match eZ P t with
  |some s=>some (.sc s)
  |none=>match P.underlying t with
    |some (.struct fs)=>if !P.stoodInHeld t&& !P.eqGuardType P.depth t then(ew P 4 0 fs.toList).map Ro.ag else none
    |_=>none
def qT (P:Program) (fs:Array Field):List (Nat×O)->Option (List (Nat×Nat×O))
  |[]=>some []
  |(i,x)::r=>match fs[i]? with
    |some f=>match ec P f.type with
      |some n=>(qT P fs r).map ((f.offset,n,x)::·)
      |none=>none
    |none=>none
def qW (P:Program) (ps:Array (Nat×Operand)):Option (List (Nat×O)):=ps.toList.mapM fun(i,x)=>(cO P x).map (i,·)
def pV (P:Program):Option Operand->Option (Option O)
  |none=>some none
  |some x=>(cO P x).map some
def qU (P:Program) (neg:Bool) (t:TypeId) (x y:Operand):Option fU:=
  match y with
  | .const (.slice none 0 0)=>match P.underlying t with
    |some (.slice _)=>(cO P x).map (fU.OI neg false)
    |_=>none
  | .const .nilFunc=>match P.underlying t with
    |some (.func ..)=>(cO P x).map (fU.OI neg true)
    |_=>none
  | .const (.pointer none)=>match P.underlying t with
    |some (.pointer _)=>(cO P x).map (fU.Qt neg)
    |_=>none
  |_=>match RD P t with
    |some (.sc s)=>do pure (.L1 neg s (<-cO P x) (<-cO P y))
    |some (.ag ts)=>do pure (.Qs neg ts (<-cO P x) (<-cO P y))
    |_=>none
def tt (P:Program) (op:BinOp) (t:TypeId) (x y:Operand):Option fU:=
  match op with
  | .eql=>qU P false t x y
  | .neq=>qU P true t x y
  | .shl=>do pure (.sh true (<-cO P x) (<-cO P y))
  | .shr=>do pure (.sh false (<-cO P x) (<-cO P y))
  |op=>match P.underlying t with
    |some (.int k)=>do pure (.bin op k (<-cO P x) (<-cO P y))
    |some .string=>do pure (.Jp op (<-cO P x) (<-cO P y))
    |_=>none
def qV (P:Program) (t:TypeId):Option (MK×K):=
  match P.underlying t with
  |some (.map k e)=>match mL P e,(P.info? e).bind (·.zero),eZ P k,P.underlying k with
    |some false,some zv,some s,_=>(Fk zv).map fun z=>(⟨false,[s]⟩,z)
    |some false,some zv,none,some (.struct fs)=>match ew P 4 0 fs.toList,Fk zv with
      |some ts,some z=>if !P.stoodInHeld k/\fs.toList.all (fun f=>(eZ P f.type).isSome)then some (⟨true,ts⟩,z)else none
      |_,_=>none
    |_,_,_,_=>none
  |_=>none
def mv (P:Program) (c:Call):Option fU:=
  match c.callee with
  | .builtin .len=>match c.args.toList,c.argTypes.toList with
    |[x],[t]=>match P.underlying t with
      |some (.slice _)=>(cO P x).map fU.len
      |some .string=>(cO P x).map fU.Kb
      |some (.map _ _)=>match qV P t,cO P x with
        |some (m,_),some x=>some (.mq (.len m) [x])
        |_,_=>none
      |some (.chan _ _)=>(cO P x).map fU.HN
      |_=>none
    |_,_=>none
  | .builtin .append=>match c.args.toList,c.argTypes.toList with
    |[x,y],[t,u]=>match P.underlying t with
      |some (.slice e)=>match ec P e,jj P e,P.info? e with
        |some (sz+1),some _,some i=>if i.bytes<=32768/\t=u then do pure (.append (sz+1) (<-cO P x) (<-cO P y))else none
        |_,_,_=>none
      |_=>none
    |_,_=>none
  | .builtin .clear=>match c.args.toList,c.argTypes.toList with
    |[x],[t]=>match P.underlying t with
      |some (.slice e)=>match ec P e,jj P e with
        |some (_+1),some z=>(cO P x).map (fU.clear z)
        |_,_=>none
      |_=>none
    |_,_=>none
  | .value (.func f)=>if fA P f then(c.args.toList.mapM (cO P)).map (fU.call f)else none
  | .value (.tmp t)=>(c.args.toList.mapM (cO P)).map (fU.rV (.t t))
  | .builtin .delete=>match c.args.toList,c.argTypes.toList with
    |[x,k],[t,_]=>match qV P t,cO P x,cO P k with
      |some (m,_),some x,some k=>some (.mw (.del m) [x,k])
      |_,_,_=>none
    |_,_=>none
  | .builtin .copy=>match c.args.toList,c.argTypes.toList with
    |[x,y],[t,_]=>match P.underlying t with
      |some (.slice e)=>match ec P e with
        |some (sz+1)=>do pure (.copy (sz+1) (<-cO P x) (<-cO P y))
        |_=>none
      |_=>none
    |_,_=>none
  |_=>none
def pJ (P:Program) (o:Op):Option fU:=
  match o with
  | .move x| .assign x=>(cO P x).map fU.de
  | .pick c a b=>do pure (.pick (<-cO P c) (<-cO P a) (<-cO P b))
  | .alloc e=>(jj P e).map fU.new
  | .box _ x=>(cO P x).map fU.box
  | .load t a=>do pure (.load (<-mL P t) (<-ec P t) (<-cO P a))
  | .store t a x=>do pure (.store (<-ec P t) (<-cO P a) (<-cO P x))
  | .nilCheck x=>(cO P x).map fU.zt
  | .binOp op t x y _=>tt P op t x y
  | .unOp .not _ x=>(cO P x).map fU.not
  | .unOp .neg _ x=>(cO P x).map fU.neg
  | .convert s d x=>match P.underlying s,P.underlying d with
    |some (.int _),some (.int k)=>(cO P x).map (fU.conv k)
    |some .string,some .string=>(cO P x).map fU.Dv
    |_,_=>none
  | .slice t x lo hi none=>match P.underlying t with
    |some (.slice e)=>do
      pure (.slice (<-ec P e) (<-cO P x) (<-pV P lo) (<-pV P hi))
    |some .string=>do pure (.yG (<-cO P x) (<-pV P lo) (<-pV P hi))
    |_=>none
  | .fieldAddr s x i=>match P.underlying s with
    |some (.struct fs)=>match fs[i]? with
      |some f=>match ec P f.type with
        |some (_+1)=>(cO P x).map (fU.fM f.offset)
        |_=>none
      |none=>none
    |_=>none
  | .field s x i=>match P.underlying s with
    |some (.struct fs)=>match fs[i]? with
      |some f=>do pure (.field (<-mL P f.type) f.offset (<-ec P f.type) (<-cO P x))
      |none=>none
    |_=>none
  | .indexAddr t x i=>match P.underlying t with
    |some (.slice e)=>match ec P e with
      |some (m+1)=>do pure (.dC (m+1) (<-cO P x) (<-cO P i))
      |_=>none
    |some (.array len e)=>match ec P e with
      |some (m+1)=>do pure (.JZ len (m+1) (<-cO P x) (<-cO P i))
      |_=>none
    |_=>none
  | .index t x i=>match P.underlying t with
    |some .string=>do pure (.J2 (<-cO P x) (<-cO P i))
    |some (.array len e)=>do pure (.eC (<-mL P e) len (<-ec P e) (<-cO P x) (<-cO P i))
    |_=>none
  | .extract x i=>(cO P x).map (fU.extract i)
  | .build t ps=>match P.underlying t with
    |some (.struct fs)=>
      match jj P t,qW P ps with
      |some z,some l=>
        if fs.all (fun f=>(P.info? f.type).isSome)then(qT P fs l).map (fU.build z)else none
      |_,_=>none
    |some (.array _ e)=>
      match jj P t,qW P ps,ec P e with
      |some z,some l,some n=>some (.build z (l.map fun(i,x)=>(i*n,n,x)))
      |_,_,_=>none
    |_=>none
  | .buildSlice t len ps=>match P.underlying t with
    |some (.slice e)=>match ec P e,jj P e,qW P ps with
      |some (sz+1),some _,some l=>
        if len*(sz+1)<=4096/\l.map (·.1)=List.range len then some (.lT (sz+1) len (l.map (·.2)))else none
      |_,_,_=>none
    |_=>none
  | .makeFunc (.func f) first cX=>
    if first= #[]/\fA P f then(cX.toList.mapM (cO P)).map (fU.Ke f)else if cX= #[]/\fA P f then(first.toList.mapM (cO P)).map (fU.Kf f)else none
  | .makeSlice t l c=>match P.underlying t with
    |some (.slice e)=>match ec P e,jj P e,P.info? e with
      |some (_+1),some z,some i=>if i.bytes<=32768 then do pure (.jz z (<-cO P l) (<-cO P c))else none
      |_,_,_=>none
    |_=>none
  | .call c=>mv P c
  | .makeChan t n=>match P.underlying t with
    |some (.chan _ e)=>match P.info? e with
      |some i=>if i.bytes<=32768 then(cO P n).map fU.HU else none
      |none=>none
    |_=>none
  | .send x y=>do pure (.snd (<-cO P x) (<-cO P y))
  | .recv t x false=>match P.underlying t with
    |some (.chan _ e)=>match (P.info? e).bind (·.zero)with
      |some _=>(cO P x).map fU.Nc
      |none=>none
    |_=>none
  | .makeMap t none=>match qV P t with
    |some (m,_)=>some (.mq (.new m) [])
    |none=>none
  | .lookup t x k ok=>match qV P t,cO P x,cO P k with
    |some (m,z),some x,some k=>some (.mq (.look m ok z) [x,k])
    |_,_,_=>none
  | .mapUpdate t x k v| .insert t x k v=>match qV P t,cO P x,cO P k,cO P v with
    |some (m,_),some x,some k,some v=>some (.mw (.set m) [x,k,v])
    |_,_,_,_=>none
  | .makeInterface _ _=>some .bad
  | .panic _=>some .bad
  |_=>none
inductive Rm where
  |pure|look|make|write
  deriving DecidableEq,Repr
def fU.cls:fU->Rm
  | .new _| .box _| .lT .. | .jz .. | .mq (.new _) _| .HU _=>.make
  | .load .. | .dC .. | .slice .. | .call .. | .rV .. | .mq .. | .HN _=>.look
  | .store .. | .append .. | .copy .. | .clear .. | .mw .. | .snd .. | .Nc _=>.write
  |_=>.pure
def clash:Rm->Rm->Bool
  | .pure,_|_,.pure=>false
  | .write,_|_,.write=>true
  |_,_=>false
def jf (ops:Array Oper):Array Nat:=Region.before ops
def pz:fU->Bool:=fun o=>o.cls==.make||o.cls==.write
def fU.la:fU->Bool
  | .call .. | .rV .. =>true
  |_=>false
def BE (ops:Array Oper) (o:Oper):Option (Option (Nat×Bool)):=
  match o.guard with
  |none=>some none
  |some (i,b)=>match (ops[i]?).bind (·.dst)with
    |some t=>some (some (t,b))
    |none=>none
def lv (P:Program) (ops:Array Oper) (nt site0:Nat) (draw mk:Bool) (bs:Array Nat) (hidden:List (Nat×Bool)) (j:Nat) (o:Oper):Option bf:=do
  let v <-pJ P o.op
  let g <-BE ops o
  if (o.dst.all fun d=>decide (d<nt))then
    pure {dst:=o.dst,op:=v,guard:=g,site:=site0+j,hid:=if draw then(hidden.filter fun(i,m)=>m&& !(bs.getD j 0).testBit i&&(i !=j||mk&&v.la)).map fun(i,_)=>site0+i else[]}
  else none
def allM {α:Type} (f:Nat->Oper->Option α):List Oper->Nat->Option (List α)
  |[],_=>some []
  |o::r,j=>do pure ((<-f j o)::(<-allM f r (j+1)))
def gx:O->List Nat
  | .t n=>[n]
  |_=>[]
def ur:Option O->List Nat
  |some x=>gx x
  |none=>[]
def fU.ga:fU->List Nat
  | .clear _ x| .de x| .box x| .load _ _ x| .zt x| .OI _ _ x| .Qt _ x| .not x| .neg x| .conv _ x| .Dv x| .fM _ x| .field _ _ _ x| .extract _ x| .len x| .Kb x| .HU x| .HN x| .Nc x=>gx x
  | .pick c a b=>gx c++gx a++gx b
  | .new _| .bad=>[]
  | .build _ ps=>ps.flatMap fun(_,_,x)=>gx x
  | .lT _ _ ps=>ps.flatMap gx
  | .store _ a x| .snd a x=>gx a++gx x
  | .bin _ _ x y| .sh _ x y| .Jp _ x y| .L1 _ _ x y| .Qs _ _ x y| .dC _ x y| .JZ _ _ x y| .J2 x y| .eC _ _ _ x y| .append _ x y| .copy _ x y| .jz _ x y=>gx x++gx y
  | .slice _ x lo hi| .yG x lo hi=>gx x++ur lo++ur hi
  | .Ke _ l| .Kf _ l| .call _ l| .mq _ l| .mw _ l=>l.flatMap gx
  | .rV x l=>gx x++l.flatMap gx
def bf.ga (v:bf):List Nat:=v.op.ga++(match v.guard with|some (t,_)=>[t]|none=>[])
def rN (x y:bf):Bool:=
  (match x.dst with
   |some d=> !y.ga.contains d&&y.dst !=some d
   |none=>true)&&
  (match y.dst with
   |some d=> !x.ga.contains d
   |none=>true)
def bf.makes (v:bf):Bool:=pz v.op||v.op.la&&v.hid.contains v.site
def DI (x y:bf):Bool:=
  rN x y&& !clash x.op.cls y.op.cls&&(!x.makes||y.hid.contains x.site)&&(!y.makes||x.hid.contains y.site)&&x.site !=y.site
def Dx (ops:Array Oper):Bool:=ops.toList.zipIdx.all fun(o,j)=>o.after.all fun e=> !Region.binds .any e||decide (e.on<j)
def nr (ops:Array Oper) (vl:List bf) (bs:Array Nat):Bool:=
  Dx ops&&vl.zipIdx.all fun(y,j)=>vl.zipIdx.all fun(x,i)=> !(decide (i<j))||(bs.getD j 0).testBit i||DI x y
def pW (P:Program) (nt site0:Nat) (ops:Array Oper) (draw mk:Bool):Option (List bf):=
  let bs:=if draw then jf ops else #[]
  let hidden:=if draw then ops.toList.zipIdx.map fun(o,i)=>(i,((pJ P o.op).map fun v=>pz v||mk&&v.la).getD false)else[]
  match allM (lv P ops nt site0 draw mk bs hidden) ops.toList 0 with
  |some vl=>if !draw||nr ops vl bs then some vl else none
  |none=>none
def kr (v:bf):Bool:= !v.op.la&&v.op.cls !=.write
def wv (x y:bf):Bool:=rN x y&&x.op.cls==.pure||DI x y&&kr x&&kr y
def pa (ops:Array Oper) (vl:List bf) (bs:Array Nat) (listed:Array Bool) (i:Nat):Bool:=
  match vl[i]? with
  |some x=>(List.range ops.size).all fun j=>listed.getD j false||j==i||(bs.getD j 0).testBit i||(match vl[j]? with|some y=>wv x y|none=>false)
  |none=>false
def Ll (vl:List bf) (x:bf):Option (Nat×Nat×O):=
  match x.op,x.guard with
  | .append _ (.t t) y,none=>match vl.find? fun v=>v.dst==some t&&v.op.cls==.make with
    |some v=>some (t,v.site,y)
    |none=>none
  |_,_=>none
def DH (s:Nat) (x y:bf):Bool:=rN x y&&kr y&&y.hid.contains s&&y.hid.contains x.site&&y.site !=s&&y.site !=x.site
def nu (ops:Array Oper) (vl:List bf) (bs:Array Nat) (listed:Array Bool) (i s:Nat):Bool:=
  match vl[i]? with
  |some x=>(List.range ops.size).all fun j=>listed.getD j false||j==i||(bs.getD j 0).testBit i||(match vl[j]? with|some y=>DH s x y|none=>false)
  |none=>false
def M3 (ops:Array Oper) (vl:List bf) (bs:Array Nat) (listed:Array Bool) (i:Nat):Option (Nat×Nat×Nat×O×bf):=
  match vl[i]? with
  |some x=>match Ll vl x with
    |some (t,s,y)=>if nu ops vl bs listed i s then some (i,t,s,y,x)else none
    |none=>none
  |none=>none
def zm:List VC->Option VC
  |[]=>none
  |[c]=>some c
  |c::r=>(zm r).map (VC.both c)
def uT (ops:Array Oper) (vl:List bf) (bs:Array Nat):Nat->Array Bool->Option VC
  |0,listed=>
    match Region.ready .any ops listed with
    |[]=>some (.eJ false [])
    |_::_=>none
  |n+1,listed=>
    match Region.ready .any ops listed with
    |[]=>some (.eJ false [])
    |r::rs=>let rdy:=r::rs
      match rdy.find? (pa ops vl bs listed)with
      |some i=>match vl[i]? with
        |some vo=>(uT ops vl bs n (listed.setIfInBounds i true)).map (VC.one vo)
        |none=>none
      |none=>match rdy.findSome? (M3 ops vl bs listed)with
        |some (i,t,s,y,vo)=>(uT ops vl bs n (listed.setIfInBounds i true)).map fun c=>VC.loc t s y (.one vo c)
        |none=>match rdy.mapM fun i=>(vl[i]?).bind fun vo=>(uT ops vl bs n (listed.setIfInBounds i true)).map (VC.one vo)with
          |some l=>zm l
          |none=>none
def Lj:Op->Bool
  | .send .. | .recv .. =>true
  |_=>false
def OB (P:Program) (nt site0:Nat) (ops:Array Oper) (draw:Bool) (mode:Nat):Option VC:=
  if draw&&mode==2 then
    match allM (lv P ops nt site0 true false (jf ops) (ops.toList.zipIdx.map fun(o,i)=>(i,((pJ P o.op).map pz).getD false))) ops.toList 0 with
    |some vl=>uT ops vl (jf ops) ops.size (Array.replicate ops.size false)
    |none=>none
  else if !draw&&ops.any (fun o=>Lj o.op)then(pW P nt site0 ops false false).map VC.LW
  else(pW P nt site0 ops draw (mode==1)).map (VC.eJ draw)
def uj (md:List (Nat×Nat)) (id:Nat):Nat:=
  match md with
  |[]=>0
  |(i,m)::r=>if i=id then m else uj r id
def jF (P:Program) (md:List (Nat×Nat)) (nt vB:Nat):Code->Option VC
  | .skip=>some .skip
  | .region id ops draw=>OB P nt ((vB*1000+id)*1000) ops draw (uj md id)
  | .seq a b=>do pure (.seq (<-jF P md nt vB a) (<-jF P md nt vB b))
  | .cond c x y=>do pure (.cond (<-cO P c) (<-jF P md nt vB x) (<-jF P md nt vB y))
  | .block id c=>(jF P md nt vB c).map (VC.block id)
  | .loop c=>(jF P md nt vB c).map VC.loop
  | .exit id=>some (.exit id)
  | .ret=>some .ret
  |_=>none
def EE (P:Program) (r:ResultVar):Option ox:=
  match r with
  | .tmp t=>some (.tmp t)
  | .cell a t=>do pure (.cell (<-mL P t) (<-ec P t) a)
def vp (P:Program) (f:Nat) (md:List (Nat×Nat)):Option yU:=
  match P.funcs[f]? with
  |some fn=>match fn.body with
    |some c=>do
      let b <-jF P md fn.ntmps f c
      let r <-fn.results.toList.mapM (EE P)
      if fn.params.size+fn.nfree<=fn.ntmps then pure {ntmps:=fn.ntmps,w6:=fn.params.size+fn.nfree,body:=b,res:=r}else none
    |none=>none
  |none=>none
def mU (P:Program) (f:Nat):Option yU:=vp P f []
structure Row where
 w:Bool
 sz:Nat
 rows:List (List AV)
abbrev Rows:=Id->Option Row
structure ax where
 get:Rows
 next:Nat
abbrev Env:=Nat->AV
def upd (env:Env):Option Nat->AV->Env
 |some d,v=>fun t=>if t=d then v else env t
 |none,_=>env
inductive Ex where
 |normal
 |exit (id:Nat)
 |ret
 deriving DecidableEq
def cV (env:Env):O->AV
 | .t n=>env n
 | .k c=>c.av
 | .ka cs=>.agg (cs.map K.av)
 | .f n=>.fn n []
def bK (g:Rows) (id:Id) (r:Row):Rows:=fun i=>if i=id then some r else g i
def bR (g:Rows) (id:Id):Rows:=fun i=>if i=id then none else g i
def fG:List Nat->Nat->Rows->Rows
 |[],_,g=>g
 |h::t,n,g=>fun id=>if (h::t).contains id.site=true/\id.bt=n then none else g id
def ro (g:Rows):Rows:=fun id=>(g id).map fun r=>{r with w:=false}
def part (agg:Bool) (n:Nat) (cs:List AV):Option AV:=
 if agg then(if n<=cs.length then some (.agg (cs.take n))else none)else cs.head?
def rowAt (g:Rows) (id:Id) (i:Nat):Option (List AV):=(g id).bind (·.rows[i]?)
def ld (g:Rows) (agg:Bool) (n:Nat):AV->Option AV
 | .ptr id i off=>(rowAt g id i).bind fun cs=>part agg n (cs.drop off)
 | .dd cs=>part agg n cs
 |_=>none
def du:BinOp->IntKind->Int->Int->Option AV
 | .add,k,a,b=>some (.int k (k.wrap (a+b)))
 | .sub,k,a,b=>some (.int k (k.wrap (a-b)))
 | .mul,k,a,b=>some (.int k (k.wrap (a*b)))
 | .quo,k,a,b=>if b=0 then none else some (.int k (k.wrap (a.tdiv b)))
 | .rem,k,a,b=>if b=0 then none else some (.int k (a.tmod b))
 | .lss,_,a,b=>some (.bool (decide (a<b)))
 | .leq,_,a,b=>some (.bool (decide (a<=b)))
 | .gtr,_,a,b=>some (.bool (decide (b<a)))
 | .geq,_,a,b=>some (.bool (decide (b<=a)))
 | .and,k,a,b=>some (.int k (k.wrap (BitVec.ofInt k.bits a&&& BitVec.ofInt k.bits b).toNat))
 | .or,k,a,b=>some (.int k (k.wrap (BitVec.ofInt k.bits a|||BitVec.ofInt k.bits b).toNat))
 | .xor,k,a,b=>some (.int k (k.wrap (BitVec.ofInt k.bits a ^^^ BitVec.ofInt k.bits b).toNat))
 |_,_,_,_=>none
def dQ (op:BinOp):AV->AV->Option AV
 | .int k a,.int k' b=>if k=k' then du op k a b else none
 |_,_=>none
def gE (left:Bool):AV->AV->Option AV
 | .int k a,.int _ b=>if b<0 then none else some (.int k (if left then k.wrap (a*2 ^ min b.toNat k.bits)else a.fdiv (2 ^ min b.toNat k.bits)))
 |_,_=>none
def eb:BinOp->ByteArray->ByteArray->Option AV
 | .add,a,b=>if a.size+b.size<=9223372036854775807 then some (.str (a++b))else none
 | .lss,a,b=>some (.bool (Op.bytesLess a.toList b.toList))
 | .leq,a,b=>some (.bool (Op.bytesLess a.toList b.toList||(a.toList==b.toList)))
 | .gtr,a,b=>some (.bool !(Op.bytesLess a.toList b.toList||(a.toList==b.toList)))
 | .geq,a,b=>some (.bool !(Op.bytesLess a.toList b.toList))
 |_,_,_=>none
def cR (op:BinOp):AV->AV->Option AV
 | .str a,.str b=>eb op a b
 |_,_=>none
def fF:TS->AV->AV->Option Bool
 | .tI,.int k a,.int k' b=>if k=k' then some (decide (a=b))else none
 | .tB,.bool a,.bool b=>some (a==b)
 | .tS,.str a,.str b=>some (decide (a=b))
 |_,_,_=>none
def eL:List TS->List AV->List AV->Option Bool
 |[],[],[]=>some true
 |t::ts,a::r,b::s=>match fF t a b,eL ts r s with
  |some x,some y=>some (x&&y)
  |_,_=>none
 |_,_,_=>none
def dh (neg b:Bool):Bool:=if neg then !b else b
def cP:AV->Option Bool
 | .cq=>some true
 | .own _ _ _=>some false
 | .sl (_::_)=>some false
 |_=>none
def cN:AV->Option Bool
 | .jJ=>some true
 | .fn _ _=>some false
 |_=>none
def IL:AV->Option Bool
 | .gW=>some true
 | .ptr .. | .dd _=>some false
 |_=>none
def dV (J5:Bool) (x:AV):Option Bool:=if J5 then cN x else cP x
def dD (len:Nat):Option AV->Option Nat
 |none=>some len
 |some (.int _ n)=>if 0<=n/\n<=len then some n.toNat else none
 |_=>none
def dE (h:Nat):Option AV->Option Nat
 |none=>some 0
 |some (.int _ n)=>if 0<=n/\n<=h then some n.toNat else none
 |_=>none
def bF (g:Rows) (sz:Nat) (x:AV) (lo hi:Option AV):Option AV:=
 match x with
 | .cq=>(dD 0 hi).bind fun h=>(dE h lo).map fun _=>.cq
 | .sl rows=>(dD rows.length hi).bind fun h=>(dE h lo).bind fun l=>if ∀cs∈rows,cs.length=sz then some (.sl ((rows.drop l).take (h-l)))else none
 | .own id off len=>(g id).bind fun r=>(dD len hi).bind fun h=>(dE h lo).bind fun l=>if r.sz=sz then some (.own id (off+l) (h-l))else none
 |_=>none
def aT (x:AV) (lo hi:Option AV):Option AV:=
 match x with
 | .str s=>(dD s.size hi).bind fun h=>(dE h lo).map fun l=>.str (s.extract l h)
 |_=>none
def De (off:Nat):AV->Option AV
 | .ptr id i o=>some (.ptr id i (o+off))
 | .dd cs=>some (.dd (cs.drop off))
 |_=>none
def bE (g:Rows) (sz:Nat):AV->AV->Option AV
 | .sl rows,.int _ n=>if 0<=n then(rows[n.toNat]?).bind fun cs=>if cs.length=sz then some (.dd cs)else none else none
 | .own id off len,.int _ n=>if 0<=n/\n<len then(g id).bind fun r=>if r.sz=sz then some (.ptr id (off+n.toNat) 0)else none else none
 |_,_=>none
def cG (len sz:Nat):AV->AV->Option AV
 | .ptr id r off,.int _ n=>if 0<=n/\n<len then some (.ptr id r (off+n.toNat*sz))else none
 | .dd cs,.int _ n=>if 0<=n/\n<len then some (.dd (cs.drop (n.toNat*sz)))else none
 |_,_=>none
def cI:AV->AV->Option AV
 | .str s,.int _ n=>if 0<=n then(s[n.toNat]?).map fun b=>.int .u8 b.toNat else none
 |_,_=>none
def cH (agg:Bool) (len n:Nat):AV->AV->Option AV
 | .agg cs,.int _ i=>if 0<=i/\i<len then part agg n (cs.drop (i.toNat*n))else none
 |_,_=>none
def dS:AV->Option Nat
 | .cq=>some 0
 | .sl rows=>some rows.length
 | .own _ _ n=>some n
 |_=>none
def dW:AV->Option AV
 | .bool b=>some (.bool !b)
 |_=>none
def dU:AV->Option AV
 | .int k n=>some (.int k (k.wrap (0-n)))
 |_=>none
def cF (k:IntKind):AV->Option AV
 | .int _ n=>some (.int k (k.wrap n))
 |_=>none
def bJ:AV->Option AV
 | .str s=>some (.str s)
 |_=>none
def cQ:AV->AV->AV->Option AV
 | .bool c,a,b=>some (if c then a else b)
 |_,_,_=>none
def dR:AV->Option AV
 | .ptr id i o=>some (.ptr id i o)
 | .dd cs=>some (.dd cs)
 |_=>none
def bD (agg:Bool) (off n:Nat):AV->Option AV
 | .agg cs=>if off+n<=cs.length then part agg n (cs.drop off)else none
 |_=>none
def aJ (i:Nat):AV->Option AV
 | .im vs=>vs[i]?
 |_=>none
def cK:AV->Option AV
 | .str s=>some (.int .i64 s.size)
 |_=>none
def rowOf (sz:Nat) (v:AV):Option (List AV):=if v.cells.length=sz/\v.cells.all AV.cell then some v.cells else none
def cC (v:AV):Option (List AV):=if v.cells.all AV.cell then some v.cells else none
def rowsOf (sz:Nat):List AV->Option (List (List AV))
 |[]=>some []
 |v::r=>(rowOf sz v).bind fun c=>(rowsOf sz r).map fun cs=>c::cs
def cm:List AV->List (Nat×Nat×AV)->Option (List AV)
 |cs,[]=>some cs
 |cs,(off,n,v)::r=>if v.cells.length=n/\off+n<=cs.length/\v.cells.all AV.cell then cm (cs.take off++v.cells++cs.drop (off+n)) r else none
def dv:Nat:=16777216
def gD (zero:List K):AV->AV->Option (Nat×Row)
 | .int _ l,.int _ c=>if 0<=l/\l<=c/\c<=dv then some (l.toNat,⟨true,zero.length,List.replicate l.toNat (zero.map K.av)⟩)else none
 |_,_=>none
def sJ:Nat:=1000000000
def MK.ks (m:MK):Nat:=m.ts.length
def MK.lp (m:MK):Nat:=sJ+m.ks
def AV.isAgg:AV->Bool
 | .agg _=>true
 |_=>false
def fI (m:MK) (key:List AV):List (List AV)->Nat->Option (Option Nat)
 |[],_=>some none
 |r::l,i=>match eL m.ts key (r.take m.ks)with
  |some true=>some (some i)
  |some false=>fI m key l (i+1)
  |none=>none
def dG (g:Rows) (m:MK):AV->Option (Id×Row)
 | .map id m'=>if m'=m then(g id).map fun r=>(id,r)else none
 |_=>none
def fC (m:MK) (k:AV) (rows:List (List AV)):Option (Option Nat):=if k.isAgg=m.ka/\k.cells.length=m.ks/\k.cells.all AV.cell then fI m k.cells rows 0 else none
def dO (m:MK) (z:K) (rows:List (List AV)):Option Nat->Option AV
 |some i=>(rows[i]?).bind fun cs=>cs[m.ks]?
 |none=>some z.av
def bj (q:MQ) (vs:List AV) (g:Rows) (id:Id):Option (AV×Option Row):=
 match q,vs with
 | .new m,[]=>some (.map id m,some ⟨true,m.lp,[]⟩)
 | .look m ok z,[x,k]=>(dG g m x).bind fun p=>(fC m k p.2.rows).bind fun fi=>(dO m z p.2.rows fi).map fun v=>(if ok then .im [v,.bool fi.isSome]else v,none)
 | .len m,[x]=>(dG g m x).map fun p=>(.int .i64 p.2.rows.length,none)
 |_,_=>none
def pZ:Nat:=2000000000
def cL:AV->Option Nat
 | .int _ n=>if 0<=n/\n<=1048576 then some n.toNat else none
 |_=>none
def cJ (g:Rows):AV->Option AV
 | .sP id=>(g id).map fun r=>.int .i64 r.rows.length
 |_=>none
def dY (g:Rows):AV->AV->Option Rows
 | .sP id,v=>(g id).bind fun r=>if r.w/\pZ+r.rows.length<r.sz/\v.cell then some (bK g id {r with rows:=r.rows++[[v]]})else none
 |_,_=>none
def dX (g:Rows):AV->Option (AV×Rows)
 | .sP id=>(g id).bind fun r=>match r.rows with
  |[v]::rest=>if r.w then some (v,bK g id {r with rows:=rest})else none
  |_=>none
 |_=>none
def dz (rows:List (List AV)) (e:List AV):Option Nat->List (List AV)
 |some i=>rows.set i e
 |none=>rows++[e]
def dF (rows:List (List AV)):Option Nat->List (List AV)
 |some i=>rows.eraseIdx i
 |none=>rows
def bx (q:MW) (vs:List AV) (g:Rows):Option Rows:=
 match q,vs with
 | .set m,[x,k,v]=>(dG g m x).bind fun p=>(fC m k p.2.rows).bind fun fi=>if p.2.w/\v.cell/\v.isAgg=false then some (bK g p.1 {p.2 with rows:=dz p.2.rows (k.cells++[v]) fi})else none
 | .del m,[x,k]=>(dG g m x).bind fun p=>(fC m k p.2.rows).bind fun fi=>if p.2.w then some (bK g p.1 {p.2 with rows:=dF p.2.rows fi})else none
 |_,_=>none
def eD (o:fU) (ρ:O->AV) (g:Rows) (id:Id):Option (AV×Option Row):=
 match o with
 | .de x=>some (ρ x,none)
 | .pick c a b=>(cQ (ρ c) (ρ a) (ρ b)).map (·,none)
 | .new zero=>some (.ptr id 0 0,some ⟨true,zero.length,[zero.map K.av]⟩)
 | .box x=>(cC (ρ x)).map fun cs=>(.ptr id 0 0,some ⟨true,cs.length,[cs]⟩)
 | .build zero parts=>(cm (zero.map K.av) (parts.map fun(o,n,x)=>(o,n,ρ x))).map fun cs=>(.agg cs,none)
 | .lT sz len parts=>(rowsOf sz (parts.map ρ)).map fun rs=>(.own id 0 len,some ⟨true,sz,rs⟩)
 | .load agg n a=>(ld g agg n (ρ a)).map (·,none)
 | .zt x=>(dR (ρ x)).map (·,none)
 | .bin op _ x y=>(dQ op (ρ x) (ρ y)).map (·,none)
 | .sh left x y=>(gE left (ρ x) (ρ y)).map (·,none)
 | .Jp op x y=>(cR op (ρ x) (ρ y)).map (·,none)
 | .L1 neg t x y=>(fF t (ρ x) (ρ y)).map fun b=>(.bool (dh neg b),none)
 | .Qs neg ts x y=>match ρ x,ρ y with
  | .agg xs,.agg ys=>(eL ts xs ys).map fun b=>(.bool (dh neg b),none)
  |_,_=>none
 | .OI neg J5 x=>(dV J5 (ρ x)).map fun b=>(.bool (dh neg b),none)
 | .Qt neg x=>(IL (ρ x)).map fun b=>(.bool (dh neg b),none)
 | .not x=>(dW (ρ x)).map (·,none)
 | .neg x=>(dU (ρ x)).map (·,none)
 | .conv k x=>(cF k (ρ x)).map (·,none)
 | .Dv x=>(bJ (ρ x)).map (·,none)
 | .slice sz x lo hi=>(bF g sz (ρ x) (lo.map ρ) (hi.map ρ)).map (·,none)
 | .yG x lo hi=>(aT (ρ x) (lo.map ρ) (hi.map ρ)).map (·,none)
 | .fM off x=>(De off (ρ x)).map (·,none)
 | .field agg off n x=>(bD agg off n (ρ x)).map (·,none)
 | .dC sz x i=>(bE g sz (ρ x) (ρ i)).map (·,none)
 | .JZ len sz x i=>(cG len sz (ρ x) (ρ i)).map (·,none)
 | .J2 x i=>(cI (ρ x) (ρ i)).map (·,none)
 | .eC agg len n x i=>(cH agg len n (ρ x) (ρ i)).map (·,none)
 | .extract i x=>(aJ i (ρ x)).map (·,none)
 | .len x=>(dS (ρ x)).map fun(n:Nat)=>(AV.int .i64 (n:Int),none)
 | .Kb x=>(cK (ρ x)).map (·,none)
 | .Ke f cX=>some (.fn f (cX.map ρ),none)
 | .Kf f first=>some (.ui f (first.map ρ),none)
 | .jz zero l c=>(gD zero (ρ l) (ρ c)).map fun(n,r)=>(.own id 0 n,some r)
 | .mq q xs=>bj q (xs.map ρ) g id
 | .HU x=>(cL (ρ x)).map fun n=>(.sP id,some ⟨true,pZ+n,[]⟩)
 | .HN x=>(cJ g (ρ x)).map (·,none)
 |_=>none
def bd (g:Rows):AV->Option (List (List AV))
 | .cq=>some []
 | .sl rows=>some rows
 | .own id off len=>(g id).bind fun r=>if off+len<=r.rows.length then some ((r.rows.drop off).take len)else none
 |_=>none
def cz (cs:List AV) (off:Nat) (xs:List AV):List AV:=cs.take off++xs++cs.drop (off+xs.length)
def bG (g:Rows) (n:Nat) (v:AV):AV->Option Rows
 | .ptr id i off=>(g id).bind fun r=>(r.rows[i]?).bind fun cs=>
  if r.w/\v.cells.length=n/\v.cells.all AV.cell/\off+n<=cs.length then some (bK g id {r with rows:=r.rows.set i (cz cs off v.cells)})else none
 |_=>none
def aP (g:Rows) (id:Id) (sz:Nat) (x:AV) (ys:List (List AV)):Option (AV×Rows):=
 match x with
 | .cq=>match ys with
  |[]=>some (.cq,g)
  |y::r=>if (y::r).length<=dv/\(y::r).all (fun c=>c.length==sz&&c.all AV.cell)then some (.own id 0 (y::r).length,bK g id ⟨true,sz,y::r⟩)else none
 | .own i 0 len=>(g i).bind fun r=>
  if r.w/\r.sz=sz/\len=r.rows.length/\len+ys.length<=dv/\ys.all (fun c=>c.length==sz&&c.all AV.cell)then some (.own id 0 (len+ys.length),bK (bR g i) id ⟨true,sz,r.rows++ys⟩)else none
 |_=>none
def Ej (g:Rows) (sz:Nat) (x:AV) (ys:List (List AV)):Option (AV×Rows):=
 match x with
 | .own i off len=>(g i).bind fun r=>
  if r.w/\r.sz=sz/\off+len<=r.rows.length/\ys.all (fun c=>c.length==sz&&c.all AV.cell)then
   some (.int .i64 (min ys.length len:Nat),bK g i {r with rows:=r.rows.take off++ys.take (min ys.length len)++r.rows.drop (off+min ys.length len)})else none
 |_=>none
def bB (g:Rows) (zero:List K) (x:AV):Option Rows:=
 match x with
 | .cq=>some g
 | .own i off len=>(g i).bind fun r=>
  if r.w/\r.sz=zero.length/\off+len<=r.rows.length then
   some (bK g i {r with rows:=r.rows.take off++List.replicate len (zero.map K.av)++r.rows.drop (off+len)})else none
 |_=>none
def fH (o:fU) (ρ:O->AV) (g:Rows) (id:Id):Option (AV×Rows):=
 match o with
 | .store n a x=>(bG g n (ρ x) (ρ a)).map fun g'=>(.undef,g')
 | .append sz x y=>(bd g (ρ y)).bind fun ys=>aP g id sz (ρ x) ys
 | .copy sz x y=>(bd g (ρ y)).bind fun ys=>Ej g sz (ρ x) ys
 | .clear zero x=>(bB g zero (ρ x)).map fun g'=>(.undef,g')
 | .mw q xs=>(bx q (xs.map ρ) g).map fun g'=>(.undef,g')
 |_=>none
def tu:AV->List AV->Option (Nat×List AV)
 | .fn f cX,l=>some (f,l++cX)
 | .ui f first,l=>some (f,first++l)
 |_,_=>none
abbrev ft:=Nat->List AV->ax->(AV->ax->Prop)->Prop
mutual
def fz (g:Rows):Nat->AV->Option AV
 |0,_=>none
 |n+1,a=>match a with
  | .own id off len=>match g id with
   |some r=>if r.w then(if off+len<=r.rows.length then(eh g n ((r.rows.drop off).take len)).map AV.sl else none)else none
   |none=>none
  | .ptr id i off=>match g id with
   |some r=>if r.w then(match r.rows[i]? with
    |some cs=>(dj g n (cs.drop off)).map AV.dd
    |none=>none)else none
   |none=>none
  | .agg cs=>(dj g n cs).map AV.agg
  | .im vs=>(dj g n vs).map AV.im
  | .fn f cX=>if cX.all AV.cell then(dj g n cX).map (AV.fn f)else none
  | .map _ _| .ui _ _| .sP _=>none
  |v=>some v
 termination_by n _=>(n,0)
def dj (g:Rows):Nat->List AV->Option (List AV)
 |n,[]=>some []
 |n,a::r=>match fz g n a with
  |some b=>(dj g n r).map (b::·)
  |none=>none
 termination_by n l=>(n,l.length+1)
def eh (g:Rows):Nat->List (List AV)->Option (List (List AV))
 |n,[]=>some []
 |n,c::r=>match dj g n c with
  |some b=>(eh g n r).map (b::·)
  |none=>none
 termination_by n l=>(n,(l.map (fun c=>c.length+2)).sum+1)
 decreasing_by all_goals simp_wf;try omega
end
mutual
def fV (g:Rows):Nat->AV->Option AV
 |0,_=>none
 |n+1,a=>match a with
  | .own id off len=>match g id with
   |some r=>if r.w then(if off+len<=r.rows.length then(gL g n ((r.rows.drop off).take len)).map AV.sl else none)else none
   |none=>none
  | .ptr id i off=>match g id with
   |some r=>if r.w then(match r.rows[i]? with
    |some cs=>(ep g n (cs.drop off)).map AV.dd
    |none=>none)else none
   |none=>none
  | .agg cs=>(ep g n cs).map AV.agg
  | .im vs=>(ep g n vs).map AV.im
  | .int k m=>some (.int k m)
  | .bool b=>some (.bool b)
  | .str s=>some (.str s)
  | .cq=>some .cq
  | .gW=>some .gW
  | .jJ=>some .jJ
  | .jS=>some .jS
  |_=>none
 termination_by n _=>(n,0)
def ep (g:Rows):Nat->List AV->Option (List AV)
 |n,[]=>some []
 |n,a::r=>match fV g n a with
  |some b=>(ep g n r).map (b::·)
  |none=>none
 termination_by n l=>(n,l.length+1)
def gL (g:Rows):Nat->List (List AV)->Option (List (List AV))
 |n,[]=>some []
 |n,c::r=>match ep g n c with
  |some b=>(gL g n r).map (b::·)
  |none=>none
 termination_by n l=>(n,(l.map (fun c=>c.length+2)).sum+1)
 decreasing_by all_goals simp_wf;try omega
end
def eo (g:Rows):Rows:=fun id=>(g id).map fun r=>{r with w:=true}
def PC (X:ft) (f:Nat) (args:List AV) (σ:ax) (K:AV->Prop):Prop:=
 X f args ⟨ro σ.get,σ.next⟩ fun r σ'=>∃r',fz σ'.get 6 r=some r'/\K r'
def PCv (X:ft) (f:Nat) (args:List AV) (σ:ax) (K:AV->Prop):Prop:=
 ∃gj,dj (eo σ.get) 6 args=some gj/\X f gj ⟨fun _=>none,σ.next⟩ fun r σ'=>∃r',fV σ'.get 6 r=some r'/\K r'
def fQ (X:ft) (f:Nat) (args:List AV) (σ:ax) (K:AV->Prop):Prop:=PC X f args σ K∨PCv X f args σ K
def aH (g:Option (Nat×Bool)) (env:Env):Bool:=
 match g with
 |none=>true
 |some (t,b)=>match env t with
  | .bool c=>c==b
  |_=>false
def AV.plain:AV->Bool
 | .int .. | .bool _| .str _| .cq| .gW| .jJ| .jS=>true
 |_=>false
def CM (X:ft) (f:Nat) (args:List AV) (σ:ax) (sz:Nat) (rows:List (List AV)):Prop:=
 (∀c∈rows,∀a∈c,a.plain=true)/\∃gj,dj (eo σ.get) 6 args=some gj/\X f gj ⟨fun _=>none,σ.next⟩ fun r σ'=>∃id,r=.own id 0 rows.length/\σ'.get id=some ⟨true,sz,rows⟩
def cu (X:ft) (draw:Bool) (hid:List Nat) (site:Nat) (f:Nat) (args:List AV) (σ:ax) (next:AV->ax->Prop):Prop:=
 (∃r,fQ X f args ⟨fG hid σ.next σ.get,σ.next+1⟩ (fun r'=>r'=r)/\next r σ)∨
 (draw=false/\X f args ⟨σ.get,σ.next+1⟩ next)∨
 (hid.contains site=true/\∃sz rows,CM X f args ⟨fG hid σ.next σ.get,σ.next+1⟩ sz rows/\next (.own ⟨site,σ.next⟩ 0 rows.length) ⟨bK σ.get ⟨site,σ.next⟩ ⟨true,sz,rows⟩,σ.next⟩)
def fq (X:ft) (draw:Bool) (o:bf) (env:Env) (σ:ax) (next:AV->ax->Prop):Prop:=
 match o.op with
 | .call f args=>cu X draw o.hid o.site f (args.map (cV env)) σ next
 | .rV x args=>match cV env x with
  | .fn f cX=>cu X draw o.hid o.site f (args.map (cV env)++cX) σ next
  | .ui f first=>cu X draw o.hid o.site f (first++args.map (cV env)) σ next
  |_=>False
 | .store .. | .append .. | .copy .. | .clear .. | .mw .. =>match fH o.op (cV env) σ.get ⟨o.site,σ.next⟩with
  |some (v,g)=>next v ⟨g,σ.next⟩
  |none=>False
 |_=>match eD o.op (cV env) (fG o.hid σ.next σ.get) ⟨o.site,σ.next⟩with
  |some (v,some r)=>next v ⟨bK σ.get ⟨o.site,σ.next⟩ r,σ.next⟩
  |some (v,none)=>next v σ
  |none=>False
def wpOps (X:ft) (draw:Bool):List bf->(Env->ax->Prop)->Env->ax->Prop
 |[],K,env,σ=>K env ⟨σ.get,σ.next+1⟩
 |o::r,K,env,σ=>
  if aH o.guard env then fq X draw o env σ fun v σ'=>wpOps X draw r K (upd env o.dst v) σ'
  else wpOps X draw r K (upd env o.dst .undef) σ
def ck:List bf->(Env->ax->Prop)->Env->ax->Prop
 |[],K,env,σ=>K env ⟨σ.get,σ.next+1⟩
 |o::r,K,env,σ=>o.guard=none/\match o.op with
  | .snd x y=>match dY σ.get (cV env x) (cV env y)with
   |some g=>ck r K (upd env o.dst .undef) ⟨g,σ.next⟩
   |none=>False
  | .Nc x=>match dX σ.get (cV env x)with
   |some (v,g)=>ck r K (upd env o.dst v) ⟨g,σ.next⟩
   |none=>False
  |op=>match eD op (cV env) σ.get ⟨o.site,σ.next⟩with
   |some (v,none)=>ck r K (upd env o.dst v) σ
   |_=>False
def dn (next:Env->ax->Prop) (Q:Ex->Env->ax->Prop):Ex->Env->ax->Prop
 | .normal=>next
 |e=>Q e
def aX (id:Nat) (Q:Ex->Env->ax->Prop):Ex->Env->ax->Prop
 | .exit kJ=>if kJ=id then Q .normal else Q (.exit kJ)
 |e=>Q e
def D5 (W:(Ex->Env->ax->Prop)->Env->ax->Prop) (Q:Ex->Env->ax->Prop):Nat->Env->ax->Prop
 |0=>fun _ _=>False
 |n+1=>W (dn (D5 W Q n) Q)
def Kc (t s:Nat) (y:O) (env:Env) (n:Nat):Prop:=(∃len,env t=.own ⟨s,n⟩ 0 len)/\∀id o l,cV env y=.own id o l->id.bt≠n
def ej (X:ft):VC->(Ex->Env->ax->Prop)->Env->ax->Prop
 | .skip,Q=>Q .normal
 | .eJ draw ops,Q=>wpOps X draw ops (Q .normal)
 | .seq a b,Q=>ej X a (dn (ej X b Q) Q)
 | .cond c x y,Q=>fun env σ=>match cV env c with
  | .bool b=>if b then ej X x Q env σ else ej X y Q env σ
  |_=>False
 | .block id c,Q=>ej X c (aX id Q)
 | .loop c,Q=>fun env σ=>∃n,D5 (ej X c) Q n env σ
 | .exit id,Q=>Q (.exit id)
 | .ret,Q=>Q .ret
 | .one o c,Q=>fun env σ=>if aH o.guard env then fq X false o env σ fun v σ'=>ej X c Q (upd env o.dst v) σ' else ej X c Q (upd env o.dst .undef) σ
 | .both a b,Q=>fun env σ=>ej X a Q env σ/\ej X b Q env σ
 | .loc t s y c,Q=>fun env σ=>Kc t s y env σ.next/\ej X c Q env σ
 | .LW ops,Q=>ck ops (Q .normal)
def gS (env:Env) (g:Rows):ox->Option AV
 | .tmp t=>some (env t)
 | .cell agg n t=>ld g agg n (env t)
def e6 (env:Env) (g:Rows):List ox->Option (List AV)
 |[]=>some []
 |r::l=>(gS env g r).bind fun v=>(e6 env g l).map (v::·)
def eH:List AV->AV
 |[v]=>v
 |l=>.im l
def bZ (args:List AV):Env:=fun t=>args.getD t .undef
def lf (res:List ox) (K:AV->ax->Prop):Ex->Env->ax->Prop
 | .exit _,_,_=>False
 |_,env,σ=>∃vs,e6 env σ.get res=some vs/\K (eH vs) σ
inductive jC (P:Program) (w:World) (D:Nat->Prop):AV->Value->Prop
 |int (k n):jC P w D (.int k n) (.int k n)
 |bool (b):jC P w D (.bool b) (.bool b)
 |str (s):jC P w D (.str s) (.string s)
 |cq:jC P w D .cq (.slice none 0 0)
 |gW:jC P w D .gW (.pointer none)
 |jJ:jC P w D .jJ .nilFunc
 |FP (a c):c<=maxLen->jC P w D (.sl []) (.slice a 0 c)
 |sl (rows b o n c sz) (vs:Nat->Nat->Value):rows.length=n->n<=c->c<=maxLen->D b->(∀cs∈rows,cs.length=sz)->(∀cs∈rows,∀a∈cs,a.cell=true)->
   (∀i j,i<n->j<sz->w.cell? ⟨b,o+(i*sz+j),none⟩=some (vs i j))->
   (∀i j cs a,rows[i]? =some cs->cs[j]? =some a->jC P w D a (vs i j))->jC P w D (.sl rows) (.slice (some ⟨b,o,none⟩) n c)
 |dd (cs b o) (vs:Nat->Value):D b->(∀a∈cs,a.cell=true)->(∀j,j<cs.length->w.cell? ⟨b,o+j,none⟩=some (vs j))->
   (∀j a,cs[j]? =some a->jC P w D a (vs j))->jC P w D (.dd cs) (.pointer (some ⟨b,o,none⟩))
 |agg (cs) (vs:Array Value) (f:Nat->Value):vs.size=cs.length->(∀a∈cs,a.cell=true)->(∀j,j<cs.length->vs[j]? =some (f j))->(∀j a,cs[j]? =some a->jC P w D a (f j))->jC P w D (.agg cs) (.agg vs)
 |fn (f cX) (vs:Array Value) (g:Nat->Value):fA P f=true->vs.size=cX.length->(∀j,j<cX.length->vs[j]? =some (g j))->(∀j a,cX[j]? =some a->jC P w D a (g j))->jC P w D (.fn f cX) (.func (.func f) #[] vs)
 |jS:jC P w D .jS (.map none)
inductive BK where
 |map (m:MK)
 |chan (cap:Nat)
structure sr where
 b:Nat
 sz:Nat
 C:Nat
 k:Option BK
abbrev Names:=Id->Option sr
inductive da (P:Program) (w:World) (D:Nat->Prop) (ι:Names):AV->Value->Prop
 |eO (a v):jC P w D a v->da P w D ι a v
 |own (id off len o cap B):ι id=some B->B.k=none->len<=cap->(cap=0∨o=off*B.sz)->(off+cap)*B.sz<=B.C->cap<=maxLen->da P w D ι (.own id off len) (.slice (some ⟨B.b,o,none⟩) len cap)
 |ptr (id i off B):ι id=some B->B.k=none->da P w D ι (.ptr id i off) (.pointer (some ⟨B.b,i*B.sz+off,none⟩))
 |agg (cs) (vs:Array Value) (f:Nat->Value):vs.size=cs.length->(∀a∈cs,a.cell=true)->(∀j,j<cs.length->vs[j]? =some (f j))->(∀j a,cs[j]? =some a->da P w D ι a (f j))->da P w D ι (.agg cs) (.agg vs)
 |im (cs) (vs:Array Value) (f:Nat->Value):vs.size=cs.length->(∀j,j<cs.length->vs[j]? =some (f j))->(∀j a,cs[j]? =some a->da P w D ι a (f j))->da P w D ι (.im cs) (.tuple vs)
 |fn (f cX) (vs:Array Value) (g:Nat->Value):fA P f=true->vs.size=cX.length->(∀j,j<cX.length->vs[j]? =some (g j))->(∀j a,cX[j]? =some a->da P w D ι a (g j))->da P w D ι (.fn f cX) (.func (.func f) #[] vs)
 |sP (id c B):ι id=some B->B.k=some (.chan c)->da P w D ι (.sP id) (.chan (some B.b))
 |map (id m B):ι id=some B->B.k=some (.map m)->da P w D ι (.map id m) (.map (some B.b))
 |ui (f cX) (vs:Array Value) (g:Nat->Value):fA P f=true->vs.size=cX.length->(∀j,j<cX.length->vs[j]? =some (g j))->(∀j a,cX[j]? =some a->da P w D ι a (g j))->da P w D ι (.ui f cX) (.func (.func f) vs #[])
variable {P:Program} {w w':World} {D D':Nat->Prop} {ι ι':Names}
theorem jC.frame (hD:∀b,D b->w'.heap[b]? =w.heap[b]?) (hs:∀b,D b->D' b) {a:AV} {v:Value} (h:jC P w D a v):jC P w' D' a v:=by
 induction h with
 |int k n=>exact .int k n
 |bool b=>exact .bool b
 |str s=>exact .str s
 |cq=>exact .cq
 |gW=>exact .gW
 |jJ=>exact .jJ
 |jS=>exact .jS
 |FP a c h=>exact .FP a c h
 |sl rows b o n c sz vs h1 h2 h3 h4 h5 h5' h6 _ ih=>exact .sl rows b o n c sz vs h1 h2 h3 (hs b h4) h5 h5' (fun i j hi hj=>(World.cell?_of_block (hD b h4)).trans (h6 i j hi hj)) ih
 |dd cs b o vs h1 ON h2 _ ih=>exact .dd cs b o vs (hs b h1) ON (fun j hj=>(World.cell?_of_block (hD b h1)).trans (h2 j hj)) ih
 |agg cs vs f h1 h2 h3 _ ih=>exact .agg cs vs f h1 h2 h3 ih
 |fn f cX vs g h1 h2 h3 _ ih=>exact .fn f cX vs g h1 h2 h3 ih
theorem da.frame (hD:∀b,D b->w'.heap[b]? =w.heap[b]?) (hs:∀b,D b->D' b) (hι:∀id B,ι id=some B->ι' id=some B) {a:AV} {v:Value} (h:da P w D ι a v):da P w' D' ι' a v:=by
 induction h with
 |eO a v h=>exact .eO a v (h.frame hD hs)
 |map id m B h1 h2=>exact .map id m B (hι _ _ h1) h2
 |sP id c B h1 h2=>exact .sP id c B (hι _ _ h1) h2
 |own id off len o cap B h1 h2 h3 h4 h5 h6=>exact .own id off len o cap B (hι _ _ h1) h2 h3 h4 h5 h6
 |ptr id i off B h1 h2=>exact .ptr id i off B (hι _ _ h1) h2
 |agg cs vs f h1 h2 h3 _ ih=>exact .agg cs vs f h1 h2 h3 ih
 |im cs vs f h1 h2 _ ih=>exact .im cs vs f h1 h2 ih
 |fn f cX vs g h1 h2 h3 _ ih=>exact .fn f cX vs g h1 h2 h3 ih
 |ui f cX vs g h1 h2 h3 _ ih=>exact .ui f cX vs g h1 h2 h3 ih
theorem da.undef:da P w D ι .undef Go.undef:=.im [] #[] (fun _=>Go.undef) rfl (fun j hj=>by simp at hj) (fun j a h=>by simp at h)
theorem uE (c:K):da P w D ι c.av c.val:=by
 cases c with
 |int k n=>exact .eO _ _ (.int k n)
 |bool b=>exact .eO _ _ (.bool b)
 |str l=>exact .eO _ _ (.str _)
 |cq=>exact .eO _ _ .cq
 |gW=>exact .eO _ _ .gW
 |jJ=>exact .eO _ _ .jJ
 |jS=>exact .eO _ _ .jS
theorem K.lR (c:K):c.av.cell=true:=by cases c<;>rfl
theorem xX {v:Value} {c:K} (h:Fk v=some c):v=c.val:=by
 unfold Fk at h
 split at h<;>simp at h<;>subst h<;>rfl
theorem da.zr {a:AV} {v:Value} (h:da P w D ι a v) (hc:a.cell=true):v.cells= #[v]/\(∀vs,v≠.agg vs)/\(∀vs,v≠.tuple vs):=by
 cases h with
 |eO a v h=>cases h<;>simp_all [AV.cell,Value.cells]
 |own=>simp[Value.cells]
 |map=>simp[Value.cells]
 |sP=>simp[Value.cells]
 |ptr=>simp[Value.cells]
 |agg=>simp[AV.cell]at hc
 |im=>simp[AV.cell]at hc
 |fn=>simp[Value.cells]
 |ui=>simp[Value.cells]
theorem da.cells {a:AV} {v:Value} (h:da P w D ι a v) (ha:a.cells.all AV.cell=true):v.cells.size=a.cells.length/\∃f:Nat->Value,(∀j,j<a.cells.length->v.cells[j]? =some (f j))/\∀j x,a.cells[j]? =some x->da P w D ι x (f j):=by
 have one:∀(a:AV) (v:Value),a.cell=true->a.cells=[a]->da P w D ι a v->v.cells.size=a.cells.length/\∃f:Nat->Value,(∀j,j<a.cells.length->v.cells[j]? =some (f j))/\∀j x,a.cells[j]? =some x->da P w D ι x (f j):=by
  intro a v hc dp h
  obtain⟨h1,_,_⟩:=h.zr hc
  rw[h1,dp]
  refine⟨rfl,fun _=>v,fun j hj=>?_,fun j x hx=>?_⟩
  ·have:j=0:=by simp at hj;omega
   subst this;rfl
  ·cases j with
   |zero=>simp at hx;subst hx;exact h
   |succ j=>simp at hx
 cases h with
 |eO a v h=>
  cases h with
  |agg cs vs f h1 h2 h3 h4=>exact⟨h1,f,h3,fun j x hx=>.eO _ _ (h4 j x hx)⟩
  |_=>exact one _ _ rfl rfl (.eO _ _ (by constructor<;>assumption))
 |own id off len o cap B h1 h2 h3 h4 h5 h6=>exact one _ _ rfl rfl (.own id off len o cap B h1 h2 h3 h4 h5 h6)
 |ptr id i off B h1 h2=>exact one _ _ rfl rfl (.ptr id i off B h1 h2)
 |map id m B h1 h2=>exact one _ _ rfl rfl (.map id m B h1 h2)
 |sP id c B h1 h2=>exact one _ _ rfl rfl (.sP id c B h1 h2)
 |agg cs vs f h1 h2 h3 h4=>exact⟨h1,f,h3,h4⟩
 |im cs vs f h1 h2 h3=>simp[AV.cells,AV.cell]at ha
 |fn f cX vs g h1 h2 h3 h4=>exact one _ _ rfl rfl (.fn f cX vs g h1 h2 h3 h4)
 |ui f cX vs g h1 h2 h3 h4=>exact one _ _ rfl rfl (.ui f cX vs g h1 h2 h3 h4)
structure kc (P:Program) (w:World) (D:Nat->Prop) (ι:Names) (B:sr) (r:Row):Prop where
 sz:B.sz=r.sz
 xw:∃cells T,w.heap[B.b]? =some (.cells cells T (0,0))/\cells.size=B.C
 fits:r.rows.length*r.sz<=B.C
 len:∀cs∈r.rows,cs.length=r.sz
 flat:∀cs∈r.rows,∀a∈cs,a.cell=true
 at_:∀i j cs a,r.rows[i]? =some cs->cs[j]? =some a->∃v,w.cell? ⟨B.b,i*r.sz+j,none⟩=some v/\da P w D ι a v
def Ev (es:Array MapEntry) (clock:Nat):Prop:=(∀x∈es.toList,x.born<clock)/\(es.toList.map (·.born)).Nodup
def KV (P:Program) (w:World) (D:Nat->Prop) (ι:Names) (B:sr) (m:MK) (r:Row):Prop:=
 ∃(es:Array MapEntry) (clock:Nat),w.heap[B.b]? =some (.map es clock)/\es.size=r.rows.length/\((∀cs∈r.rows,cs.length=m.ks+1)/\Ev es clock)/\
  ∀(i:Nat) (cs:List AV),r.rows[i]? =some cs->∃(e:MapEntry) (kv vv:AV),es[i]? =some e/\part m.ka m.ks cs=some kv/\cs[m.ks]? =some vv/\da P w D ι kv e.key/\da P w D ι vv e.val
def Gu (P:Program) (w:World) (D:Nat->Prop) (ι:Names) (B:sr) (c:Nat) (r:Row):Prop:=
 ∃(buf:Array Value) (s q:Nat),w.heap[B.b]? =some (.chan c buf false s q false)/\buf.size=r.rows.length/\
  ∀(i:Nat) (cs:List AV),r.rows[i]? =some cs->∃(a:AV) (u:Value),cs=[a]/\buf[i]? =some u/\da P w D ι a u
structure iQ (P:Program) (w:World) (D:Nat->Prop) (ι:Names) (B:sr) (r:Row):Prop where
 sz:B.sz=r.sz
 flat:∀cs∈r.rows,∀a∈cs,a.cell=true
 row:B.k=none->kc P w D ι B r
 map:∀m,B.k=some (.map m)->r.sz=m.lp/\KV P w D ι B m r
 chan:∀c,B.k=some (.chan c)->r.sz=pZ+c/\Gu P w D ι B c r
theorem kc.obj {B:sr} {r:Row} (R:kc P w D ι B r) (h:B.k=none):iQ P w D ι B r:=⟨R.sz,R.flat,fun _=>R,fun m hm=>(by rw[h]at hm;cases hm),fun m hm=>by rw[h]at hm;cases hm⟩
theorem iQ.flag {B:sr} {r:Row} (R:iQ P w D ι B r) (b:Bool):iQ P w D ι B {r with w:=b}:=⟨R.sz,R.flat,fun h=>⟨R.sz,(R.row h).xw,(R.row h).fits,(R.row h).len,R.flat,(R.row h).at_⟩,R.map,R.chan⟩
theorem iQ.Kh {B:sr} {r:Row} (R:iQ P w D ι B r) {c:Array Value} {T:TypeId} {z:Nat×Nat} (h:w.heap[B.b]? =some (.cells c T z)):B.k=none:=by
 cases hk:B.k with
 |none=>rfl
 |some m=>
  cases m with
  |map m=>obtain⟨_,es,c,h3,_⟩:=R.map m hk;rw[h]at h3;cases h3
  |chan c=>obtain⟨_,buf,s,q,h3,_⟩:=R.chan c hk;rw[h]at h3;cases h3
theorem iQ.lt {B:sr} {r:Row} (R:iQ P w D ι B r):B.b<w.heap.size:=by
 cases h:B.k with
 |none=>
  obtain⟨c,T,h3,_⟩:=(R.row h).xw
  exact(Array.getElem?_eq_some_iff.1 h3).1
 |some m=>
  cases m with
  |map m=>obtain⟨_,es,c,h3,_⟩:=R.map m h;exact(Array.getElem?_eq_some_iff.1 h3).1
  |chan c=>obtain⟨_,buf,s,q,h3,_⟩:=R.chan c h;exact(Array.getElem?_eq_some_iff.1 h3).1
structure fW (P:Program) (hs:Nat) (D:Nat->Prop) (ι:Names) (g:Rows) (w:World):Prop where
 lo:hs<=w.heap.size
 dead:∀b,D b->b<w.heap.size
 row:∀id r,g id=some r->∃B,ι id=some B/\iQ P w D ι B r/\(r.w=true->hs<=B.b)/\(r.w=true->¬D B.b)
 inj:∀id kJ r r' B B',g id=some r->g kJ=some r'->r.w=true->ι id=some B->ι kJ=some B'->B.b=B'.b->id=kJ
def Used (ι:Names) (n:Nat) (U:Nat->Prop):Prop:=∀id,ι id≠none->id.bt<n∨(id.bt=n/\U id.site)
structure Step (hs:Nat) (D:Nat->Prop) (ι:Names) (w:World) (D':Nat->Prop) (ι':Names) (w':World):Prop where
 below:Below hs w w'
 tZ:∀b,D b->w'.heap[b]? =w.heap[b]?
 dead:∀b,D b->D' b
 names:∀id B,ι id=some B->ι' id=some B
 new:∀b,D' b->D b∨hs<=b
theorem Step.refl (hs:Nat) (D:Nat->Prop) (ι:Names) (w:World):Step hs D ι w D ι w:=⟨Below.refl _ _,fun _ _=>rfl,fun _ h=>h,fun _ _ h=>h,fun _ h=>.inl h⟩
theorem Step.trans {hs:Nat} {D D' D'':Nat->Prop} {ι ι' Qq:Names} {w w' Jd:World} (h:Step hs D ι w D' ι' w') (k:Step hs D' ι' w' D'' Qq Jd):Step hs D ι w D'' Qq Jd:=
 ⟨h.below.trans k.below,fun b hb=>(k.tZ b (h.dead b hb)).trans (h.tZ b hb),fun b hb=>k.dead b (h.dead b hb),fun id B hB=>k.names id B (h.names id B hB),fun b hb=>by
  rcases k.new b hb with hb|hb
  ·exact h.new b hb
  ·exact .inr hb⟩
theorem Step.rep {hs:Nat} {D D':Nat->Prop} {ι ι':Names} {w w':World} (h:Step hs D ι w D' ι' w') {a:AV} {v:Value} (hr:da P w D ι a v):da P w' D' ι' a v:=hr.frame h.tZ h.dead h.names
theorem dc {k n} {v:Value} (h:da P w D ι (.int k n) v):v=.int k n:=by
 cases h with
 |eO _ _ h=>cases h;rfl
theorem eT {b} {v:Value} (h:da P w D ι (.bool b) v):v=.bool b:=by
 cases h with
 |eO _ _ h=>cases h;rfl
theorem fm {s} {v:Value} (h:da P w D ι (.str s) v):v=.string s:=by
 cases h with
 |eO _ _ h=>cases h;rfl
theorem iu {v:Value} (h:da P w D ι .cq v):v=.slice none 0 0:=by
 cases h with
 |eO _ _ h=>cases h;rfl
theorem uF {v:Value} (h:da P w D ι .jJ v):v=.nilFunc:=by
 cases h with
 |eO _ _ h=>cases h;rfl
theorem iw {cs} {v:Value} (h:da P w D ι (.agg cs) v):∃(vs:Array Value) (f:Nat->Value),v=.agg vs/\vs.size=cs.length/\(∀a∈cs,a.cell=true)/\(∀j,j<cs.length->vs[j]? =some (f j))/\∀j a,cs[j]? =some a->da P w D ι a (f j):=by
 cases h with
 |eO _ _ h=>
  cases h with
  |agg cs vs f h1 h2 h3 h4=>exact⟨vs,f,rfl,h1,h2,h3,fun j a h=>.eO _ _ (h4 j a h)⟩
 |agg cs vs f h1 h2 h3 h4=>exact⟨vs,f,rfl,h1,h2,h3,h4⟩
theorem yw {cs} {v:Value} (h:da P w D ι (.im cs) v):∃(vs:Array Value) (f:Nat->Value),v=.tuple vs/\vs.size=cs.length/\(∀j,j<cs.length->vs[j]? =some (f j))/\∀j a,cs[j]? =some a->da P w D ι a (f j):=by
 cases h with
 |eO _ _ h=>cases h
 |im cs vs f h1 h2 h3=>exact⟨vs,f,rfl,h1,h2,h3⟩
theorem uD {f cX} {v:Value} (h:da P w D ι (.fn f cX) v):∃(vs:Array Value) (g:Nat->Value),v=.func (.func f) #[] vs/\fA P f=true/\vs.size=cX.length/\(∀j,j<cX.length->vs[j]? =some (g j))/\∀j a,cX[j]? =some a->da P w D ι a (g j):=by
 cases h with
 |eO _ _ h=>
  cases h with
  |fn f cX vs g h1 h2 h3 h4=>exact⟨vs,g,rfl,h1,h2,h3,fun j a h=>.eO _ _ (h4 j a h)⟩
 |fn f cX vs g h1 h2 h3 h4=>exact⟨vs,g,rfl,h1,h2,h3,h4⟩
theorem Ig {v:Value} (h:da P w D ι .gW v):v=.pointer none:=by
 cases h with
 |eO _ _ h=>cases h;rfl
theorem AI {v:Value} (h:da P w D ι .jS v):v=.map none:=by
 cases h with
 |eO _ _ h=>cases h;rfl
theorem Kw {f cX} {v:Value} (h:da P w D ι (.ui f cX) v):∃(vs:Array Value) (g:Nat->Value),v=.func (.func f) vs #[]/\fA P f=true/\vs.size=cX.length/\(∀j,j<cX.length->vs[j]? =some (g j))/\∀j a,cX[j]? =some a->da P w D ι a (g j):=by
 cases h with
 |eO _ _ h=>cases h
 |ui f cX vs g h1 h2 h3 h4=>exact⟨vs,g,rfl,h1,h2,h3,h4⟩
theorem iy {id off len} {v:Value} (h:da P w D ι (.own id off len) v):∃o cap B,v=.slice (some ⟨B.b,o,none⟩) len cap/\ι id=some B/\len<=cap/\(cap=0∨o=off*B.sz)/\(off+cap)*B.sz<=B.C/\cap<=maxLen/\B.k=none:=by
 cases h with
 |eO _ _ h=>cases h
 |own id off len o cap B h1 h2 h3 h4 h5 h6=>exact⟨o,cap,B,rfl,h1,h3,h4,h5,h6,h2⟩
theorem iz {id i off} {v:Value} (h:da P w D ι (.ptr id i off) v):∃B,v=.pointer (some ⟨B.b,i*B.sz+off,none⟩)/\ι id=some B/\B.k=none:=by
 cases h with
 |eO _ _ h=>cases h
 |ptr id i off B h1 h2=>exact⟨B,rfl,h1,h2⟩
theorem Ku {id} {v:Value} (h:da P w D ι (.sP id) v):∃B c,v=.chan (some B.b)/\ι id=some B/\B.k=some (.chan c):=by
 cases h with
 |eO _ _ h=>cases h
 |sP id c B h1 h2=>exact⟨B,c,rfl,h1,h2⟩
theorem Eb {id m} {v:Value} (h:da P w D ι (.map id m) v):∃B,v=.map (some B.b)/\ι id=some B/\B.k=some (.map m):=by
 cases h with
 |eO _ _ h=>cases h
 |map id m B h1 h2=>exact⟨B,rfl,h1,h2⟩
theorem kA {cs} {v:Value} (h:da P w D ι (.dd cs) v):∃b o,∃vs:Nat->Value,v=.pointer (some ⟨b,o,none⟩)/\D b/\(∀a∈cs,a.cell=true)/\(∀j,j<cs.length->w.cell? ⟨b,o+j,none⟩=some (vs j))/\∀j a,cs[j]? =some a->jC P w D a (vs j):=by
 cases h with
 |eO _ _ h=>
  cases h with
  |dd cs b o vs h1 h2 h3 h4=>exact⟨b,o,vs,rfl,h1,h2,h3,h4⟩
theorem uG {rows} {v:Value} (h:da P w D ι (.sl rows) v):∃A c,v=.slice A rows.length c/\rows.length<=c/\c<=maxLen/\
  (rows=[]∨∃b o sz,∃vs:Nat->Nat->Value,A=some ⟨b,o,none⟩/\D b/\(∀cs∈rows,cs.length=sz)/\(∀cs∈rows,∀a∈cs,a.cell=true)/\
   (∀i j,i<rows.length->j<sz->w.cell? ⟨b,o+(i*sz+j),none⟩=some (vs i j))/\∀i j cs a,rows[i]? =some cs->cs[j]? =some a->jC P w D a (vs i j)):=by
 cases h with
 |eO _ _ h=>
  cases h with
  |FP a c h=>exact⟨a,c,rfl,Nat.zero_le _,h,.inl rfl⟩
  |sl rows b o n c sz vs h1 h2 h3 h4 h5 h5' h6 h7=>subst h1;exact⟨_,c,rfl,h2,h3,.inr ⟨b,o,sz,vs,rfl,h4,h5,h5',h6,h7⟩⟩
inductive eG:AV->Prop
 |int (k n):eG (.int k n)
 |bool (b):eG (.bool b)
 |str (s):eG (.str s)
 |cq:eG .cq
 |gW:eG .gW
 |jJ:eG .jJ
 |sl (rows):rows.length<=maxLen->(∀cs∈rows,∀a∈cs,eG a)->eG (.sl rows)
 |own (id off len):eG (.own id off len)
 |ptr (id i off):eG (.ptr id i off)
 |dd (cs):(∀a∈cs,eG a)->eG (.dd cs)
 |agg (cs):(∀a∈cs,eG a)->eG (.agg cs)
 |im (cs):(∀a∈cs,eG a)->eG (.im cs)
 |fn (f cX):(∀a∈cX,eG a)->eG (.fn f cX)
 |map (id m):eG (.map id m)
 |sP (id):eG (.sP id)
 |jS:eG .jS
 |ui (f cX):(∀a∈cX,eG a)->eG (.ui f cX)
theorem eG.len {rows:List (List AV)} (h:eG (.sl rows)):rows.length<=9223372036854775807:=by
 cases h with
 |sl _ h _=>unfold maxLen at h;omega
theorem eG.LJ {cs:List AV} (h:eG (.agg cs)) {a:AV} (ha:a∈cs):eG a:=by
 cases h with
 |agg _ h=>exact h a ha
theorem eG.Af {cs:List AV} (h:eG (.dd cs)) {a:AV} (ha:a∈cs):eG a:=by
 cases h with
 |dd _ h=>exact h a ha
theorem nF {l:List AV} {p:AV->Prop} (h:∀(j:Nat) (a:AV),l[j]? =some a->p a):∀a∈l,p a:=fun a ha=>by
 obtain⟨j,hj,rfl⟩:=List.getElem_of_mem ha
 exact h j _ (List.getElem?_eq_getElem hj)
theorem jC.HM {a:AV} {v:Value} (h:jC P w D a v):eG a:=by
 induction h with
 |int k n=>exact .int k n
 |bool b=>exact .bool b
 |str s=>exact .str s
 |cq=>exact .cq
 |gW=>exact .gW
 |jJ=>exact .jJ
 |jS=>exact .jS
 |FP a c h=>exact .sl [] (Nat.zero_le _) (fun cs h=>by cases h)
 |sl rows b o n c sz vs h1 h2 h3 h4 h5 h5' h6 _ ih=>
  exact .sl rows (by omega) fun cs dp a ha=>by
   obtain⟨i,hi,rfl⟩:=List.getElem_of_mem dp
   obtain⟨j,hj,rfl⟩:=List.getElem_of_mem ha
   exact ih i j _ _ (List.getElem?_eq_getElem hi) (List.getElem?_eq_getElem hj)
 |dd cs b o vs h1 ON h2 _ ih=>exact .dd cs (nF ih)
 |agg cs vs f h1 h2 h3 _ ih=>exact .agg cs (nF ih)
 |fn f cX vs g h1 h2 h3 _ ih=>exact .fn f cX (nF ih)
theorem da.HM {a:AV} {v:Value} (h:da P w D ι a v):eG a:=by
 induction h with
 |eO a v h=>exact h.HM
 |own id off len o cap B=>exact .own _ _ _
 |ptr id i off B=>exact .ptr _ _ _
 |map id m B=>exact .map _ _
 |sP id c B=>exact .sP _
 |agg cs vs f h1 h2 h3 _ ih=>exact .agg cs (nF ih)
 |im cs vs f h1 h2 _ ih=>exact .im cs (nF ih)
 |fn f cX vs g h1 h2 h3 _ ih=>exact .fn f cX (nF ih)
 |ui f cX vs g h1 h2 h3 _ ih=>exact .ui f cX (nF ih)
end Go.Proofs.YtgoljkjaameagaaGreat.V

namespace Go.Proofs.YtgoljkjaameagaaGreat.V
open Go.RowKit
variable {P:Program} {w w':World} {D D':Nat->Prop} {ι ι':Names}
def bV (P:Program) (w:World) (D:Nat->Prop) (ι:Names) (env:Env) (a:Act):Prop:=∀t,da P w D ι (env t) (a.tmps.getD t undef)
theorem qm {vs:List Value} {cs:List K} (h:vs.mapM Fk=some cs):cs.length=vs.length/\∀(j:Nat) (c:K),cs[j]? =some c->vs[j]? =some c.val:=by
 induction vs generalizing cs with
 |nil=>simp at h;subst h;simp
 |cons v r ih=>
  simp only[List.mapM_cons,Option.bind_eq_bind,Option.bind_eq_some_iff]at h
  obtain⟨c,hc,oL,dp,h⟩:=h
  simp at h;subst h
  obtain⟨h1,h2⟩:=ih dp
  refine⟨by simp[h1],fun j d hd=>?_⟩
  cases j with
  |zero=>simp at hd ⊢;subst hd;exact xX hc
  |succ j=>simp at hd ⊢;exact h2 j d hd
theorem Td {vs:List Value} {cs:List K} (h:vs.mapM Fk=some cs):da P w D ι (.agg (cs.map K.av)) (.agg vs.toArray):=by
 obtain⟨h1,h2⟩:=qm h
 refine .agg _ _ (fun j=>vs.getD j undef) (by simp[h1]) (fun a ha=>?_) (fun j hj=>?_) (fun j a ha=>?_)
 ·obtain⟨c,_,rfl⟩:=List.mem_map.1 ha;exact c.lR
 ·simp at hj;simp[List.getElem?_eq_getElem (show j<vs.length by omega)]
 ·simp only[List.getElem?_map,Option.map_eq_some_iff]at ha
  obtain⟨c,hc,rfl⟩:=ha
  rw[List.getD_eq_getElem?_getD,h2 j c hc];exact uE c
theorem db {env:Env} {a:Act} {x:Operand} {y:O} (E:bV P w D ι env a) (h:cO P x=some y):da P w D ι (cV env y) (a.eval x):=by
 unfold cO at h
 split at h
 ·simp at h;subst h;exact E _
 ·simp only[Option.map_eq_some_iff]at h
  obtain⟨cs,dp,rfl⟩:=h
  have:=Td (P:=P) (w:=w) (D:=D) (ι:=ι) dp
  simpa[Act.eval,cV]using this
 ·simp only[Option.map_eq_some_iff]at h
  obtain⟨c,hc,rfl⟩:=h
  simp only[Act.eval,cV]
  rw[xX hc];exact uE c
 ·simp at h
 ·split at h
  ·rename_i hc
   simp at h;subst h
   simp only[Act.eval,cV]
   exact .fn _ _ _ (fun _=>undef) hc rfl (fun j hj=>by simp at hj) (fun j a h=>by simp at h)
  ·simp at h
def ni (P:Program) (a:Act) (o:Oper) (w:World) (D:Nat->Prop) (ι:Names) (v:AV):Prop:=∃u,(execOp a.eval o).run P w=.ok (.value u) w/\da P w D ι v u
section
variable {g:Rows} {hs:Nat} {env:Env} {a:Act} {o:Oper} {id:Id} {v:AV}
theorem Lw {x:Operand} {y:O} (E:bV P w D ι env a) (ho:o.op=.move x∨o.op=.assign x) (hx:cO P x=some y):ni P a o w D ι (cV env y):=by
 refine⟨a.eval x,?_,db E hx⟩
 rcases ho with h|h<;>simp[execOp,h,go_sem]
theorem NK {c x y:Operand} {c' x' y':O} (E:bV P w D ι env a) (ho:o.op=.pick c x y) (hc:cO P c=some c') (hx:cO P x=some x') (hy:cO P y=some y') (hv:cQ (cV env c') (cV env x') (cV env y')=some v):ni P a o w D ι v:=by
 unfold cQ at hv
 split at hv
 ·rename_i b hb
  simp at hv;subst hv
  have h1:=eT (hb▸db E hc)
  refine⟨if b then a.eval x else a.eval y,by simp only[execOp,ho,h1,asBool];rfl,?_⟩
  cases b
  ·exact db E hy
  ·exact db E hx
 ·simp at hv
theorem Qg {op:BinOp} {x y:Operand} {x' y':O} {t yt:TypeId} (E:bV P w D ι env a) (ho:o.op=.binOp op t x y yt) (he:op≠.eql) (hn:op≠.neq) (hx:cO P x=some x') (hy:cO P y=some y') (hv:dQ op (cV env x') (cV env y')=some v):ni P a o w D ι v:=by
 unfold dQ at hv
 split at hv
 ·rename_i k n k' m hb rf
  split at hv
  ·rename_i hk
   subst hk
   have h1:=dc (hb▸db E hx)
   have h2:=dc (rf▸db E hy)
   have key:∀u,(binOp op t (.int k n) (.int k m)).run P w=.ok u w->(execOp a.eval o).run P w=.ok (.value u) w:=fun u hu=>by
    have e0:eqGuard op t x y (.int k n) (.int k m)=pure ():=by unfold eqGuard;cases op<;>rfl
    simp only[execOp,ho,h1,h2,e0]
    simp[go_sem,hu]
   cases op<;>simp only[du]at hv<;>(try(simp at hv;done))<;>(try split at hv)<;>(try(simp at hv;done))<;>simp only[Option.some.injEq]at hv<;>subst hv<;>
    (refine⟨_,key _ (by simp only[binOp,ne_eq,not_true_eq_false,if_false,Op.intArith,Op.intDiv,Op.intBits,Op.intCmp, *];rfl),?_⟩)<;>
    first
     |exact .eO _ _ (.int _ _)
     |exact .eO _ _ (.bool _)
  ·simp at hv
 ·simp at hv
theorem Nv {op:BinOp} {x y:Operand} {x' y':O} {t yt:TypeId} (E:bV P w D ι env a) (ho:o.op=.binOp op t x y yt) (he:op≠.eql) (hn:op≠.neq) (hx:cO P x=some x') (hy:cO P y=some y') (hv:cR op (cV env x') (cV env y')=some v):ni P a o w D ι v:=by
 unfold cR at hv
 split at hv
 ·rename_i n m hb rf
  have h1:=fm (hb▸db E hx)
  have h2:=fm (rf▸db E hy)
  cases op<;>simp only[eb]at hv<;>(try(simp at hv;done))
  case add=>
   split at hv
   ·rename_i hl
    simp only[Option.some.injEq]at hv;subst hv
    exact⟨_,by simp only[execOp,ho,h1,h2];simp[eqGuard,binOp,go_sem];exact hl,.eO _ _ (.str _)⟩
   ·simp at hv
  all_goals
   simp only[Option.some.injEq]at hv;subst hv
   exact⟨_,by simp only[execOp,ho,h1,h2];simp[eqGuard,binOp,Op.stringOp,go_sem],.eO _ _ (.bool _)⟩
 ·simp at hv
theorem Eg (n m:ByteArray):(n.toList==m.toList)=decide (n=m):=by
 rw[ByteArray.toList_eq,ByteArray.toList_eq]
 by_cases h:n=m
 ·subst h;simp
 ·have:n.data.toList≠m.data.toList:=fun he=>h (ByteArray.ext (Array.ext' he))
  rw[decide_eq_false h];exact beq_eq_false_iff_ne.2 this
theorem oa {t:TypeId} (h:eZ P t=some .tB):P.underlying t=some .bool:=by unfold eZ at h;split at h<;>simp_all
theorem oc {t:TypeId} (h:eZ P t=some .tI):∃k,P.underlying t=some (.int k):=by unfold eZ at h;split at h<;>simp_all
theorem od {t:TypeId} (h:eZ P t=some .tS):P.underlying t=some .string:=by unfold eZ at h;split at h<;>simp_all
theorem qw {d:Nat} {t:TypeId} {s:TS} {x y:AV} {u u':Value} {b:Bool} (hx:da P w D ι x u) (hy:da P w D ι y u') (hv:fF s x y=some b) (ht:eZ P t=some s):(Op.equalIn (d+1) t u u').run P w=.ok b w:=by
 unfold fF at hv
 split at hv
 ·rename_i k n k' m
  split at hv
  ·rename_i hk
   subst hk
   simp at hv;subst hv
   obtain⟨q,hq⟩:=oc ht
   rw[dc hx,dc hy,run_equalIn_int _ _ _ _ _ _ _ hq];rfl
  ·simp at hv
 ·simp at hv;subst hv
  rw[eT hx,eT hy,run_equalIn_bool' _ _ _ _ _ (oa ht)]
 ·simp at hv;subst hv
  rw[fm hx,fm hy,run_equalIn_string _ _ _ _ _ (od ht),Eg]
 ·simp at hv
def fb (P:Program) (w:World) (D:Nat->Prop) (ι:Names) (xs:List AV) (vs:Array Value):Prop:=vs.size=xs.length/\∀(j:Nat) (a:AV),xs[j]? =some a->∃u,vs[j]? =some u/\da P w D ι a u
theorem fb.part {xs:List AV} {vs:Array Value} (h:fb P w D ι xs vs) (off n:Nat) (hn:off+n<=xs.length):fb P w D ι ((xs.drop off).take n) (vs.extract off (off+n)):=by
 refine⟨by simp[h.1];omega,fun j a ha=>?_⟩
 rw[List.getElem?_take]at ha
 split at ha
 ·rename_i hj
  rw[List.getElem?_drop]at ha
  obtain⟨u,h1,h2⟩:=h.2 _ _ ha
  refine⟨u,?_,h2⟩
  rw[Array.getElem?_extract]
  rw[if_pos (by rw[h.1];omega),h1]
 ·simp at ha
theorem p9:∀{ts:List TS} {xs ys:List AV} {b:Bool},eL ts xs ys=some b->xs.length=ts.length/\ys.length=ts.length
 |[],[],[],_,_=>⟨rfl,rfl⟩
 |t::ts,x::xs,y::ys,b,h=>by
  unfold eL at h
  split at h
  ·rename_i c d h1 h2
   have:=p9 h2
   simp[this.1,this.2]
  ·simp at h
 |[],[],_::_,_,h=>by simp[eL]at h
 |[],_::_,_,_,h=>by simp[eL]at h
 |_::_,[],_,_,h=>by simp[eL]at h
 |_::_,_::_,[],_,h=>by simp[eL]at h
theorem DE:∀{ts us:List TS} {xs ys:List AV} {b:Bool},eL (ts++us) xs ys=some b->∃c d,eL ts (xs.take ts.length) (ys.take ts.length)=some c/\eL us (xs.drop ts.length) (ys.drop ts.length)=some d/\b=(c&&d)
 |[],us,xs,ys,b,h=>⟨true,b,by simp[eL],by simpa using h,by simp⟩
 |t::ts,us,x::xs,y::ys,b,h=>by
  simp only[List.cons_append]at h
  unfold eL at h
  split at h
  ·rename_i c d h1 h2
   obtain⟨c',d',h3,h4,rfl⟩:=DE h2
   simp at h;subst h
   exact⟨c&&c',d',by simp[eL,h1,h3],by simpa using h4,by simp[Bool.and_assoc]⟩
  ·simp at h
 |t::ts,us,[],ys,b,h=>by simp[eL]at h
 |t::ts,us,x::xs,[],b,h=>by simp[eL]at h
theorem lF {t:TypeId} {vs:Array Value} {off:Nat} {u:Value} (ha:mL P t=some false) (hu:vs[off]? =some u):(Go.part t vs off).run P w=.ok u w:=by
 unfold mL at ha
 have hi:(isAgg t).run P w=.ok false w:=by
  split at ha<;>simp at ha
  rename_i d h1 h2 hd
  simp only[isAgg,Sem.run_bind,run_underlying hd,Result.andThen_ok]
  cases d<;>simp_all
 simp[Go.part,hi,hu]
theorem rJ {t:TypeId} {b:Bool} (ha:mL P t=some b):(isAgg t).run P w=.ok b w:=by
 unfold mL at ha
 split at ha<;>simp at ha<;>subst ha<;>rename_i hd<;>simp only[isAgg,Sem.run_bind,run_underlying hd,Result.andThen_ok]<;>(try simp)
theorem run_sizeOf {t:TypeId} {n:Nat} (h:ec P t=some n):(sizeOf t).run P w=.ok n w:=by
 unfold ec at h
 simp only[Option.map_eq_some_iff]at h
 obtain⟨i,hi,rfl⟩:=h
 simp[sizeOf,typeInfo,hi]
theorem n9 {t:TypeId} {vs:Array Value} {off n:Nat} (ha:mL P t=some true) (hn:ec P t=some n):(Go.part t vs off).run P w=.ok (.agg (vs.extract off (off+n))) w:=by
 simp[Go.part,rJ ha,run_sizeOf hn]
theorem Hd (d off:Nat):ew P (d+1) off []=some []:=rfl
theorem wq (d off:Nat) (f:Field) (r:List Field):ew P (d+1) off (f::r)=(if f.offset=off/\f.name≠ "_" then
   match eZ P f.type with
   |some t=>if mL P f.type=some false then(ew P (d+1) (off+1) r).map (t::·)else none
   |none=>match P.underlying f.type with
    |some (.struct fs)=>if !P.stoodInHeld f.type then match ew P d 0 fs.toList with
     |some ts=>if ec P f.type=some ts.length/\ts≠[]then(ew P (d+1) (off+ts.length) r).map (ts++·)else none
     |none=>none else none
    |_=>none
  else none):=rfl
theorem qv:∀(d:Nat) (fs:List Field) (off:Nat) (ts:List TS),ew P d off fs=some ts->∀(N:Nat) (_:d<=N) (xs ys:List AV) (vs us:Array Value) (b:Bool),fb P w D ι xs vs->fb P w D ι ys us->
  eL ts ((xs.drop off).take ts.length) ((ys.drop off).take ts.length)=some b->(Op.eqFields (N+1) vs us fs).run P w=.ok b w:=by
 intro d
 induction d with
 |zero=>
  intro fs off ts hf N _ xs ys vs us b _ _ he
  cases fs with
  |nil=>simp[ew]at hf;subst hf;simp[eL]at he;subst he;simp[Op.eqFields]
  |cons f r=>simp[ew]at hf
 |succ d ihd=>
  intro fs
  induction fs with
  |nil=>
   intro off ts hf N _ xs ys vs us b _ _ he
   rw[Hd]at hf;simp at hf;subst hf;simp[eL]at he;subst he;simp[Op.eqFields]
  |cons f r ih=>
   intro off ts hf N hN xs ys vs us b hx hy he
   rw[wq]at hf
   split at hf
   ·rename_i hcond
    obtain⟨ho,gM⟩:=hcond
    split at hf
    ·rename_i s hs
     split at hf
     ·rename_i sW
      simp only[Option.map_eq_some_iff]at hf
      obtain⟨Jc,hr,rfl⟩:=hf
      obtain⟨l1,l2⟩:=p9 he
      simp only[List.length_cons,List.length_take,List.length_drop]at l1 l2
      have y5:off<xs.length:=by omega
      have hyo:off<ys.length:=by omega
      rw[List.drop_eq_getElem_cons y5,List.drop_eq_getElem_cons hyo,List.length_cons,List.take_succ_cons,List.take_succ_cons]at he
      unfold eL at he
      split at he
      ·rename_i c d' h1 h2
       simp at he;subst he
       obtain⟨u,hu,ru⟩:=hx.2 off _ (List.getElem?_eq_getElem y5)
       obtain⟨u',DT,ru'⟩:=hy.2 off _ (List.getElem?_eq_getElem hyo)
       have:=ih (off+1) Jc hr N hN xs ys vs us d' hx hy h2
       simp only[Op.eqFields,if_pos gM,Sem.run_bind,ho,lF sW hu,lF sW DT,Result.andThen_ok,qw ru ru' h1 hs,Sem.run_ite]
       cases c<;>simp[this]
      ·simp at he
     ·simp at hf
    ·split at hf
     ·rename_i fs' qb
      split at hf
      ·rename_i dL
       split at hf
       ·rename_i ts1 hts1
        split at hf
        ·rename_i eW
         simp only[Option.map_eq_some_iff]at hf
         obtain⟨Jc,hr,rfl⟩:=hf
         obtain⟨c,d',h1,h2,rfl⟩:=DE he
         obtain⟨l1,l2⟩:=p9 he
         simp only[List.length_append,List.length_take,List.length_drop]at l1 l2
         have sW:mL P f.type=some true:=by simp[mL,qb]
         have kO:0<ts1.length:=List.length_pos_iff.2 eW.2
         have Li:off+ts1.length<=xs.length:=by omega
         have hy1:off+ts1.length<=ys.length:=by omega
         rw[List.drop_take,List.drop_drop,List.drop_take,List.drop_drop]at h2
         rw[List.take_take,List.take_take]at h1
         simp only[List.length_append]at h1 h2
         rw[Nat.min_eq_left (by omega)]at h1
         have e2:ts1.length+Jc.length-ts1.length=Jc.length:=by omega
         rw[e2]at h2
         have:=ih (off+ts1.length) Jc hr N hN xs ys vs us d' hx hy h2
         have e9:=ihd fs'.toList 0 ts1 hts1 (N-1) (by omega) _ _ _ _ c (hx.part off ts1.length Li) (hy.part off ts1.length hy1) (by simpa[List.take_take]using h1)
         have hN':N-1+1=N:=by omega
         rw[hN']at e9
         have K6:P.fieldsOf f.type=fs':=by simp[Program.fieldsOf,qb]
         simp only[Op.eqFields,if_pos gM,Sem.run_bind,ho,n9 sW eW.1,Result.andThen_ok,Sem.run_ite]
         rw[run_equalIn_struct w N f.type _ _ (by rw[K6];exact qb) (by simpa using dL),K6,e9]
         cases c<;>simp[this]
        ·simp at hf
       ·simp at hf
      ·simp at hf
     ·simp at hf
   ·simp at hf
theorem Qk {x y:Operand} {x' y':O} {t yt:TypeId} {neg:Bool} {s:TS} {b:Bool} (E:bV P w D ι env a) (ho:o.op=.binOp (if neg then .neq else .eql) t x y yt) (hs:eZ P t=some s) (hx:cO P x=some x') (hy:cO P y=some y')
  (hv:fF s (cV env x') (cV env y')=some b):ni P a o w D ι (.bool (dh neg b)):=by
 have rx:=db E hx
 have ry:=db E hy
 refine⟨.bool (dh neg b),?_,.eO _ _ (.bool _)⟩
 have e0:(eqGuard (if neg then .neq else .eql) t x y (a.eval x) (a.eval y)).run P w=.ok () w:=by
  unfold fF at hv
  split at hv
  ·rename_i k n k' m h1 h2
   rw[h1]at rx;rw[h2]at ry
   rw[dc rx,dc ry];unfold eqGuard;cases neg<;>simp
  ·rename_i n m h1 h2
   rw[h1]at rx;rw[h2]at ry
   rw[eT rx,eT ry];unfold eqGuard;cases neg<;>simp
  ·rename_i n m h1 h2
   rw[h1]at rx;rw[h2]at ry
   rw[fm rx,fm ry];unfold eqGuard;cases neg<;>simp
  ·simp at hv
 have e1:(binOp (if neg then .neq else .eql) t (a.eval x) (a.eval y)).run P w=.ok (.bool (dh neg b)) w:=by
  have q:=qw (d:=9999) rx ry hv hs
  unfold fF at hv
  split at hv
  ·rename_i k n k' m h1 h2
   split at hv
   ·rename_i hk
    subst hk
    simp at hv;subst hv
    rw[h1]at rx;rw[h2]at ry
    rw[dc rx,dc ry]
    cases neg<;>simp only[binOp,ne_eq,not_true_eq_false,if_false,Op.intCmp,dh,if_true,Bool.false_eq_true]<;>simp[bne]<;>rfl
   ·simp at hv
  ·rename_i n m h1 h2
   rw[h1]at rx;rw[h2]at ry
   rw[eT rx,eT ry]at q ⊢
   cases neg<;>simp only[binOp,dh,if_true,Bool.false_eq_true,if_false,Sem.run_bind]<;>simp[Op.equal,Op.maxDepth,q]
  ·rename_i n m h1 h2
   simp at hv;subst hv
   rw[h1]at rx;rw[h2]at ry
   rw[fm rx,fm ry]
   cases neg<;>simp[binOp,Op.stringOp,dh,Eg]
  ·simp at hv
 simp only[execOp,ho,Sem.run_bind,e0,e1,Result.andThen_ok,Sem.run_pure]
theorem Qi {x y:Operand} {x' y':O} {t yt:TypeId} {neg:Bool} {ts:List TS} {fs:Array Field} {xs ys:List AV} {b:Bool} (E:bV P w D ι env a) (ho:o.op=.binOp (if neg then .neq else .eql) t x y yt) (qb:P.underlying t=some (.struct fs)) (dL:P.stoodInHeld t=false) (yX:P.eqGuardType P.depth t=false)
  (vK:ew P 4 0 fs.toList=some ts) (hx:cO P x=some x') (hy:cO P y=some y') (h1:cV env x'=.agg xs) (h2:cV env y'=.agg ys)
  (hv:eL ts xs ys=some b):ni P a o w D ι (.bool (dh neg b)):=by
 obtain⟨vs,f,rx,n1,_,f1,r1⟩:=iw (h1▸db E hx)
 obtain⟨us,f',ry,n2,_,f2,r2⟩:=iw (h2▸db E hy)
 refine⟨.bool (dh neg b),?_,.eO _ _ (.bool _)⟩
 obtain⟨l1,l2⟩:=p9 hv
 have L:∀(xs:List AV) (vs:Array Value) (f:Nat->Value),vs.size=xs.length->(∀j,j<xs.length->vs[j]? =some (f j))->(∀j a,xs[j]? =some a->da P w D ι a (f j))->fb P w D ι xs vs:=fun xs vs f h1 h2 h3=>
  ⟨h1,fun j a ha=>⟨f j,h2 j (List.getElem?_eq_some_iff.1 ha).1,h3 j a ha⟩⟩
 have q:=qv (w:=w) 4 fs.toList 0 ts vK 9998 (by omega) xs ys vs us b (L _ _ _ n1 f1 r1) (L _ _ _ n2 f2 r2) (by simpa[List.take_of_length_le,l1,l2]using hv)
 have K6:P.fieldsOf t=fs:=by simp[Program.fieldsOf,qb]
 have q2:(Op.equal t (.agg vs) (.agg us)).run P w=.ok b w:=by
  unfold Op.equal
  rw[show Op.maxDepth=9999+1 from rfl,run_equalIn_struct w 9999 t _ _ (by rw[K6];exact qb) dL,K6,q]
 simp only[execOp,ho,Sem.run_bind,rx,ry,run_eqGuard_agg w _ _ _ _ _ _ yX,Result.andThen_ok]
 cases neg<;>simp[binOp,q2,dh]
theorem Ny {x:Operand} {x':O} {t yt e:TypeId} {neg:Bool} {b:Bool} (E:bV P w D ι env a) (ho:o.op=.binOp (if neg then .neq else .eql) t x (.const (.slice none 0 0)) yt) (ht:P.underlying t=some (.slice e)) (hx:cO P x=some x')
  (hv:cP (cV env x')=some b):ni P a o w D ι (.bool (dh neg b)):=by
 have hr:=db E hx
 have rx:∃A n c,a.eval x=.slice A n c/\b=A.isNone:=by
  unfold cP at hv
  split at hv<;>simp at hv<;>subst hv<;>rename_i hh
  ·rw[hh]at hr;exact⟨_,_,_,iu hr,rfl⟩
  ·rw[hh]at hr;obtain⟨o,cap,B,h,_⟩:=iy hr
   exact⟨_,_,_,h,rfl⟩
  ·rw[hh]at hr
   obtain⟨A,c,h',_,_,h⟩:=uG hr
   rcases h with h|⟨b,o,sz,vs,rfl,_⟩
   ·simp at h
   ·exact⟨_,_,_,h',rfl⟩
 refine⟨.bool (dh neg b),?_,.eO _ _ (.bool _)⟩
 obtain⟨A,n,c,h,rfl⟩:=rx
 have hq:(Op.equal t (.slice A n c) (.slice none 0 0)).run P w=.ok A.isNone w:=by
  unfold Op.equal
  rw[show Op.maxDepth=9999+1 from rfl,Op.equalIn]
  simp only[Sem.run_bind,run_underlying ht,Result.andThen_ok]
  cases A<;>rfl
 have hc:a.eval (.const (.slice none 0 0))=.slice none 0 0:=rfl
 simp only[execOp,ho,h,hc]
 cases neg<;>simp only[Bool.false_eq_true,if_false,if_true,Bool.not_true,Bool.not_false,eqGuard,binOp,dh,Sem.run_bind,hq,Result.andThen_ok,Sem.run_pure]
theorem Qj {x:Operand} {x':O} {t yt e:TypeId} {neg:Bool} {b:Bool} (E:bV P w D ι env a) (ho:o.op=.binOp (if neg then .neq else .eql) t x (.const (.pointer none)) yt) (ht:P.underlying t=some (.pointer e)) (hx:cO P x=some x')
  (hv:IL (cV env x')=some b):ni P a o w D ι (.bool (dh neg b)):=by
 have hr:=db E hx
 have rx:∃A,a.eval x=.pointer A/\b=A.isNone:=by
  unfold IL at hv
  split at hv<;>simp at hv<;>subst hv<;>rename_i hh
  ·rw[hh]at hr;exact⟨_,Ig hr,rfl⟩
  ·rw[hh]at hr;obtain⟨B,h,_⟩:=iz hr
   exact⟨_,h,rfl⟩
  ·rw[hh]at hr;obtain⟨_,_,_,h,_⟩:=kA hr
   exact⟨_,h,rfl⟩
 refine⟨.bool (dh neg b),?_,.eO _ _ (.bool _)⟩
 obtain⟨A,h,rfl⟩:=rx
 have hq:(Op.equal t (.pointer A) (.pointer none)).run P w=.ok A.isNone w:=by
  unfold Op.equal
  rw[show Op.maxDepth=9999+1 from rfl,Op.equalIn]
  simp only[Sem.run_bind,run_underlying ht,Result.andThen_ok]
  cases A<;>rfl
 have hc:a.eval (.const (.pointer none))=.pointer none:=rfl
 simp only[execOp,ho,h,hc]
 cases neg<;>simp only[Bool.false_eq_true,if_false,if_true,Bool.not_true,Bool.not_false,eqGuard,binOp,dh,Sem.run_bind,hq,Result.andThen_ok,Sem.run_pure]
theorem Nx {x:Operand} {x':O} {t yt:TypeId} {p r:Array TypeId} {va:Bool} {neg:Bool} {b:Bool} (E:bV P w D ι env a) (ho:o.op=.binOp (if neg then .neq else .eql) t x (.const .nilFunc) yt) (ht:P.underlying t=some (.func p r va)) (hx:cO P x=some x')
  (hv:cN (cV env x')=some b):ni P a o w D ι (.bool (dh neg b)):=by
 have hr:=db E hx
 have rx:a.eval x=.nilFunc/\b=true∨∃f c,a.eval x=.func f #[] c/\b=false:=by
  unfold cN at hv
  split at hv<;>simp at hv<;>subst hv<;>rename_i hh
  ·rw[hh]at hr;exact .inl ⟨uF hr,rfl⟩
  ·rw[hh]at hr;obtain⟨vs,g,h,_⟩:=uD hr
   exact .inr ⟨_,_,h,rfl⟩
 refine⟨.bool (dh neg b),?_,.eO _ _ (.bool _)⟩
 have hc:a.eval (.const .nilFunc)=.nilFunc:=rfl
 rcases rx with⟨h,rfl⟩|⟨f,c,h,rfl⟩
 ·have hq:(Op.equal t .nilFunc .nilFunc).run P w=.ok true w:=by
   unfold Op.equal
   rw[show Op.maxDepth=9999+1 from rfl,Op.equalIn]
   simp only[Sem.run_bind,run_underlying ht,Result.andThen_ok]
   rfl
  simp only[execOp,ho,h,hc]
  cases neg<;>simp only[Bool.false_eq_true,if_false,if_true,Bool.not_true,Bool.not_false,eqGuard,binOp,dh,Sem.run_bind,hq,Result.andThen_ok,Sem.run_pure]
 ·have hq:(Op.equal t (.func f #[] c) .nilFunc).run P w=.ok false w:=by
   unfold Op.equal
   rw[show Op.maxDepth=9999+1 from rfl,Op.equalIn]
   simp only[Sem.run_bind,run_underlying ht,Result.andThen_ok]
   rfl
  simp only[execOp,ho,h,hc]
  cases neg<;>simp only[Bool.false_eq_true,if_false,if_true,Bool.not_true,Bool.not_false,eqGuard,binOp,dh,Sem.run_bind,hq,Result.andThen_ok,Sem.run_pure]
theorem Qn {x:Operand} {x':O} {t:TypeId} (E:bV P w D ι env a) (ho:o.op=.unOp .not t x) (hx:cO P x=some x') (hv:dW (cV env x')=some v):ni P a o w D ι v:=by
 have hr:=db E hx
 unfold dW at hv
 split at hv
 ·rename_i b hb
  simp at hv;subst hv
  rw[hb]at hr
  exact⟨_,by simp only[execOp,ho,eT hr];rfl,.eO _ _ (.bool _)⟩
 ·simp at hv
theorem Qm {x:Operand} {x':O} {t:TypeId} (E:bV P w D ι env a) (ho:o.op=.unOp .neg t x) (hx:cO P x=some x') (hv:dU (cV env x')=some v):ni P a o w D ι v:=by
 have hr:=db E hx
 unfold dU at hv
 split at hv
 ·rename_i k n hb
  simp at hv;subst hv
  rw[hb]at hr
  refine⟨_,by simp only[execOp,ho,dc hr];rfl,?_⟩
  rw[Int.zero_sub];exact .eO _ _ (.int _ _)
 ·simp at hv
theorem Nw {x:Operand} {x':O} {s d:TypeId} {k q:IntKind} (E:bV P w D ι env a) (ho:o.op=.convert s d x) (hs:P.underlying s=some (.int q)) (hd:P.underlying d=some (.int k)) (hx:cO P x=some x') (hv:cF k (cV env x')=some v):ni P a o w D ι v:=by
 have hr:=db E hx
 unfold cF at hv
 split at hv
 ·rename_i k' n hb
  simp at hv;subst hv
  rw[hb]at hr
  refine⟨.int k (k.wrap n),?_,.eO _ _ (.int _ _)⟩
  simp only[execOp,ho,dc hr,convert,Sem.run_bind,run_underlying hs,run_underlying hd,Result.andThen_ok,Conv.intToInt,Sem.run_pure]
 ·simp at hv
theorem KO {x:Operand} {x':O} {s:TypeId} {i:Nat} {fs:Array Field} {f:Field} {m:Nat} (E:bV P w D ι env a) (ho:o.op=.fieldAddr s x i) (hs:P.underlying s=some (.struct fs)) (hf:fs[i]? =some f) (hm:ec P f.type=some (m+1)) (hx:cO P x=some x')
  (hv:De f.offset (cV env x')=some v):ni P a o w D ι v:=by
 have hr:=db E hx
 have go:∀b oo,a.eval x=.pointer (some ⟨b,oo,none⟩)->(execOp a.eval o).run P w=.ok (.value (.pointer (some ⟨b,oo+f.offset,none⟩))) w:=fun b oo h=>by
  simp only[execOp,ho,h,Instr.fieldAt,Sem.run_bind,run_underlying hs,Result.andThen_ok,hf,Instr.sureAddr,Sem.run_pure,fieldPlace,run_sizeOf hm,Nat.add_eq_zero_iff,Nat.one_ne_zero,and_false,if_false,Addr.add]
  split
  ·rename_i h0;simp[h0]
  ·rfl
 unfold De at hv
 split at hv
 ·rename_i kJ i' oo hb
  simp at hv;subst hv
  rw[hb]at hr
  obtain⟨B,h,hB,hk⟩:=iz hr
  refine⟨_,go _ _ h,?_⟩
  rw[Nat.add_assoc]
  exact .ptr _ _ _ _ hB hk
 ·rename_i cs hb
  simp at hv;subst hv
  rw[hb]at hr
  obtain⟨b,oo,vs,h,h1,h2,h3,h4⟩:=kA hr
  refine⟨_,go _ _ h,.eO _ _ (.dd _ _ _ (fun j=>vs (f.offset+j)) h1 (fun a ha=>h2 a (List.mem_of_mem_drop ha)) (fun j hj=>?_) (fun j a ha=>h4 _ _ (by simpa using ha)))⟩
  rw[Nat.add_assoc]
  exact h3 _ (by simp at hj;omega)
 ·simp at hv
theorem KP {x:Operand} {x':O} {s:TypeId} {i n:Nat} {ag:Bool} {fs:Array Field} {f:Field} (E:bV P w D ι env a) (ho:o.op=.field s x i) (hs:P.underlying s=some (.struct fs)) (hf:fs[i]? =some f) (sW:mL P f.type=some ag) (hm:ec P f.type=some n) (hx:cO P x=some x')
  (hv:bD ag f.offset n (cV env x')=some v):ni P a o w D ι v:=by
 have hr:=db E hx
 unfold bD at hv
 split at hv
 ·rename_i cs hb
  split at hv
  ·rename_i hl
   rw[hb]at hr
   obtain⟨vs,g,h,n1,fl,f1,r1⟩:=iw hr
   unfold part at hv
   cases ag with
   |true=>
    simp only[if_true]at hv
    split at hv
    ·simp at hv;subst hv
     refine⟨.agg (vs.extract f.offset (f.offset+n)),?_,.agg _ _ (fun j=>g (f.offset+j)) (by simp[n1];omega) (fun a ha=>fl a (List.mem_of_mem_drop (List.mem_of_mem_take ha))) (fun j hj=>?_) (fun j a ha=>?_)⟩
     ·simp only[execOp,ho,h,Instr.field,Sem.run_bind,run_underlying hs,Result.andThen_ok,hf,asAgg,Sem.run_pure,n9 sW hm]
     ·simp at hj
      rw[Array.getElem?_extract,if_pos (by omega)];exact f1 _ (by omega)
     ·rw[List.getElem?_take]at ha
      split at ha
      ·exact r1 _ _ (by simpa using ha)
      ·simp at ha
    ·simp at hv
   |false=>
    simp only[Bool.false_eq_true,if_false]at hv
    have mO:cs[f.offset]? =some v:=by simpa[List.head?_drop]using hv
    have dJ:=(List.getElem?_eq_some_iff.1 mO).1
    exact⟨g f.offset,by simp only[execOp,ho,h,Instr.field,Sem.run_bind,run_underlying hs,Result.andThen_ok,hf,asAgg,Sem.run_pure,lF sW (f1 _ dJ)],r1 _ _ mO⟩
  ·simp at hv
 ·simp at hv
theorem Qo {left:Bool} {x y:Operand} {x' y':O} {t yt:TypeId} (E:bV P w D ι env a) (ho:o.op=.binOp (if left then .shl else .shr) t x y yt) (hx:cO P x=some x') (hy:cO P y=some y') (hv:gE left (cV env x') (cV env y')=some v):ni P a o w D ι v:=by
 unfold gE at hv
 split at hv
 ·rename_i k n k' m hb rf
  split at hv
  ·simp at hv
  ·rename_i hm
   simp at hv;subst hv
   have h1:=dc (hb▸db E hx)
   have h2:=dc (rf▸db E hy)
   refine⟨_,?_,.eO _ _ (.int _ _)⟩
   simp only[execOp,ho,h1,h2]
   cases left<;>simp only[Bool.false_eq_true,if_false,if_true,eqGuard,Bool.not_true,Bool.not_false,binOp,Op.shift,hm,Sem.run_bind,Sem.run_pure,Result.andThen_ok]<;>rfl
 ·simp at hv
end
end Go.Proofs.YtgoljkjaameagaaGreat.V

namespace Go.Proofs.YtgoljkjaameagaaGreat.V
open Go.RowKit
variable {P:Program} {w w':World} {D D':Nat->Prop} {ι ι':Names}
theorem jN (b o j:Nat):(⟨b,o,none⟩:Addr).add j=⟨b,o+j,none⟩:=by unfold Addr.add;split<;>simp_all
section
variable {g:Rows} {hs:Nat} {env:Env} {a:Act} {o:Oper} {id:Id} {v:AV}
theorem j7 {t:TypeId} {ag:Bool} {n b oo:Nat} {cs:List AV} {v:AV} {f:Nat->Value} (sW:mL P t=some ag) (hn:ec P t=some n) (hp:part ag n cs=some v) (fl:∀a∈cs,a.cell=true)
  (hc:∀j,j<cs.length->w.cell? ⟨b,oo+j,none⟩=some (f j)) (hr:∀j a,cs[j]? =some a->da P w D ι a (f j)):∃u,(loadVar t ⟨b,oo,none⟩).run P w=.ok u w/\da P w D ι v u:=by
 unfold part at hp
 cases ag with
 |true=>
  simp only[if_true]at hp
  split at hp
  ·rename_i hl
   simp at hp;subst hp
   refine⟨.agg ((List.range n).map f).toArray,?_,.agg _ _ f (by simp;omega) (fun a ha=>fl a (List.mem_of_mem_take ha)) (fun j hj=>?_) (fun j a ha=>?_)⟩
   ·simp only[loadVar,Sem.run_bind,rJ sW,Result.andThen_ok,if_true,run_sizeOf hn,Sem.run_pure]
    rw[run_loadCells w _ n f (fun j hj=>by rw[jN];exact hc j (by omega))]
    rfl
   ·simp at hj
    have:j<n:=by omega
    simp[this]
   ·rw[List.getElem?_take]at ha
    split at ha
    ·exact hr _ _ ha
    ·simp at ha
  ·simp at hp
 |false=>
  simp only[Bool.false_eq_true,if_false]at hp
  cases cs with
  |nil=>simp at hp
  |cons c r=>
   simp at hp;subst hp
   refine⟨f 0,?_,hr 0 _ rfl⟩
   simp only[loadVar,Sem.run_bind,rJ sW,Result.andThen_ok,Bool.false_eq_true,if_false]
   have:=hc 0 (by simp)
   simp at this
   rw[run_load,this]
theorem Il {S:fW P hs D ι g w} {i:Nat} {cs:List AV} (h:rowAt g id i=some cs) (hk:∀B,ι id=some B->B.k=none):∃B r,g id=some r/\ι id=some B/\kc P w D ι B r/\r.rows[i]? =some cs/\(∀a∈cs,a.cell=true)/\∃f:Nat->Value,∀j,j<cs.length->w.cell? ⟨B.b,i*B.sz+j,none⟩=some (f j)/\∀a,cs[j]? =some a->da P w D ι a (f j):=by
 unfold rowAt at h
 simp only[Option.bind_eq_some_iff]at h
 obtain⟨r,hr,hi⟩:=h
 obtain⟨B,hB,R,_,_⟩:=S.row id r hr
 replace R:=R.row (hk B hB)
 refine⟨B,r,hr,hB,R,hi,R.flat cs (List.mem_of_getElem? hi),fun j=>(w.cell? ⟨B.b,i*B.sz+j,none⟩).getD undef,fun j hj=>?_⟩
 obtain⟨u,hu,vJ⟩:=R.at_ i j cs _ hi (List.getElem?_eq_getElem hj)
 rw[R.sz,hu]
 refine⟨by simp only[hu,Option.getD_some],fun a ha=>?_⟩
 rw[List.getElem?_eq_getElem hj]at ha
 injection ha with ha
 subst ha
 simpa only[hu,Option.getD_some]using vJ
theorem NF {x:Operand} {x':O} {t:TypeId} {ag:Bool} {n:Nat} (S:fW P hs D ι g w) (E:bV P w D ι env a) (ho:o.op=.load t x) (sW:mL P t=some ag) (hn:ec P t=some n) (hx:cO P x=some x') (hv:ld g ag n (cV env x')=some v):ni P a o w D ι v:=by
 have hr:=db E hx
 have go:∀b oo u,a.eval x=.pointer (some ⟨b,oo,none⟩)->(loadVar t ⟨b,oo,none⟩).run P w=.ok u w->(execOp a.eval o).run P w=.ok (.value u) w:=fun b oo u h h2=>by
  simp only[execOp,ho,h,Instr.loadAt,Instr.sureAddr,Sem.run_bind,Sem.run_pure,Result.andThen_ok,h2]
 unfold ld at hv
 split at hv
 ·rename_i kJ i' oo hb
  rw[hb]at hr
  obtain⟨B,h,hB,hk⟩:=iz hr
  simp only[Option.bind_eq_some_iff]at hv
  obtain⟨cs,dp,hp⟩:=hv
  obtain⟨B',r,Gf,dK,R,hi,fl,f,hf⟩:=Il (S:=S) dp (fun B2 h2=>by rw[hB]at h2;injection h2 with h2;subst h2;exact hk)
  rw[hB]at dK;injection dK with dK;subst dK
  obtain⟨u,h1,h2⟩:=j7 (w:=w) (b:=B.b) (oo:=i'*B.sz+oo) (f:=fun j=>f (oo+j)) sW hn hp (fun a ha=>fl a (List.mem_of_mem_drop ha)) (fun j hj=>by
   rw[Nat.add_assoc];exact(hf _ (by simp at hj;omega)).1) (fun j a ha=>by
   simp at ha;exact(hf _ ((List.getElem?_eq_some_iff.1 ha).1)).2 _ ha)
  exact⟨u,go _ _ _ h h1,h2⟩
 ·rename_i cs hb
  rw[hb]at hr
  obtain⟨b,oo,vs,h,h1,h2,h3,h4⟩:=kA hr
  obtain⟨u,k1,k2⟩:=j7 (w:=w) (b:=b) (oo:=oo) (f:=vs) sW hn hv h2 h3 (fun j a ha=>.eO _ _ (h4 j a ha))
  exact⟨u,go _ _ _ h k1,k2⟩
 ·simp at hv
theorem Qh {x:Operand} {x':O} (E:bV P w D ι env a) (ho:o.op=.nilCheck x) (hx:cO P x=some x') (hv:dR (cV env x')=some v):ni P a o w D ι v:=by
 have hr:=db E hx
 unfold dR at hv
 split at hv
 ·rename_i kJ i' oo hb
  simp at hv;subst hv
  rw[hb]at hr
  obtain⟨B,h,hB,hk⟩:=iz hr
  exact⟨_,by simp only[execOp,ho,h];rfl,.ptr _ _ _ _ hB hk⟩
 ·rename_i cs hb
  simp at hv;subst hv
  rw[hb]at hr
  obtain⟨b,oo,vs,h,_⟩:=kA hr
  exact⟨_,by simp only[execOp,ho,h];rfl,h▸hr⟩
 ·simp at hv
theorem KQ {x i:Operand} {x' i':O} {t e:TypeId} {m:Nat} (S:fW P hs D ι g w) (E:bV P w D ι env a) (ho:o.op=.indexAddr t x i) (ht:P.underlying t=some (.slice e)) (hm:ec P e=some (m+1)) (hx:cO P x=some x') (hi:cO P i=some i')
  (hv:bE g (m+1) (cV env x') (cV env i')=some v):ni P a o w D ι v:=by
 have hr:=db E hx
 have Cm:=db E hi
 have go:∀b oo n c k (q:Int),a.eval x=.slice (some ⟨b,oo,none⟩) n c->a.eval i=.int k q->0<=q->q<n->(execOp a.eval o).run P w=.ok (.value (.pointer (some ⟨b,oo+q.toNat*(m+1),none⟩))) w:=fun b oo n c k q h h2 h3 h4=>by
  simp only[execOp,ho,h,h2,Instr.indexAt,asIntOf,Sem.run_bind,Sem.run_pure,run_underlying ht,Result.andThen_ok,h3,h4,and_self,if_true,run_sizeOf hm,jN]
 unfold bE at hv
 split at hv
 ·rename_i rows k q hb rf
  split at hv
  ·rename_i hq
   simp only[Option.bind_eq_some_iff]at hv
   obtain⟨cs,dp,hv⟩:=hv
   split at hv
   ·rename_i hlen
    simp at hv;subst hv
    rw[hb]at hr;rw[rf]at Cm
    have dJ:=(List.getElem?_eq_some_iff.1 dp).1
    obtain⟨A,c,h,h1,h2,h3⟩:=uG hr
    rcases h3 with h3|⟨b,oo,sz,vs,rfl,hD,hl,fl,hc,hi⟩
    ·subst h3;simp at dp
    have eW:sz=m+1:=by rw[<-hlen,hl cs (List.mem_of_getElem? dp)]
    refine⟨_,go b oo _ _ k q h (dc Cm) hq (by omega),.eO _ _ (.dd cs b _ (vs q.toNat) hD (fl cs (List.mem_of_getElem? dp)) (fun j hj=>?_) (fun j a ha=>hi _ _ _ _ dp ha))⟩
    have:=hc q.toNat j dJ (by rw[<-hl cs (List.mem_of_getElem? dp)];exact hj)
    rw[eW]at this
    rw[Nat.add_assoc];exact this
   ·simp at hv
  ·simp at hv
 ·rename_i kJ off len k q hb rf
  split at hv
  ·rename_i hq
   simp only[Option.bind_eq_some_iff]at hv
   obtain⟨r,Gf,hv⟩:=hv
   split at hv
   ·rename_i wO
    simp at hv;subst hv
    rw[hb]at hr;rw[rf]at Cm
    obtain⟨oo,cap,B,h,hB,h1,h2,h3,h4,hk⟩:=iy hr
    obtain⟨B',dK,R,_,_⟩:=S.row _ _ Gf
    rw[hB]at dK;injection dK with dK;subst dK
    replace R:=R.row hk
    have eW:B.sz=m+1:=R.sz.trans wO
    refine⟨_,go _ _ _ _ k q h (dc Cm) hq.1 hq.2,?_⟩
    have A7:oo=off*B.sz:=by rcases h2 with h2|h2<;>omega
    have:oo+q.toNat*(m+1)=(off+q.toNat)*B.sz+0:=by rw[A7,<-eW,Nat.add_mul];rfl
    rw[this]
    exact .ptr _ _ _ _ hB hk
   ·simp at hv
  ·simp at hv
 ·simp at hv
theorem Nz {x i:Operand} {x' i':O} {t e:TypeId} {m len:Nat} (E:bV P w D ι env a) (ho:o.op=.indexAddr t x i) (ht:P.underlying t=some (.array len e)) (hm:ec P e=some (m+1)) (hx:cO P x=some x') (hi:cO P i=some i')
  (hv:cG len (m+1) (cV env x') (cV env i')=some v):ni P a o w D ι v:=by
 have hr:=db E hx
 have Cm:=db E hi
 have go:∀b oo k (q:Int),a.eval x=.pointer (some ⟨b,oo,none⟩)->a.eval i=.int k q->0<=q->q<len->(execOp a.eval o).run P w=.ok (.value (.pointer (some ⟨b,oo+q.toNat*(m+1),none⟩))) w:=fun b oo k q h h2 h3 h4=>by
  simp only[execOp,ho,h,h2,Instr.indexAt,asIntOf,Sem.run_bind,Sem.run_pure,run_underlying ht,Instr.sureAddr,Result.andThen_ok,h3,h4,and_self,if_true,run_sizeOf hm,jN]
 unfold cG at hv
 split at hv
 ·rename_i kJ r oo k q hb rf
  split at hv
  ·rename_i hq
   simp at hv;subst hv
   rw[hb]at hr;rw[rf]at Cm
   obtain⟨B,h,hB,hk⟩:=iz hr
   refine⟨_,go _ _ k q h (dc Cm) hq.1 hq.2,?_⟩
   rw[Nat.add_assoc]
   exact .ptr _ _ _ _ hB hk
  ·simp at hv
 ·rename_i cs k q hb rf
  split at hv
  ·rename_i hq
   simp at hv;subst hv
   rw[hb]at hr;rw[rf]at Cm
   obtain⟨b,oo,vs,h,h1,h2,h3,h4⟩:=kA hr
   refine⟨_,go _ _ k q h (dc Cm) hq.1 hq.2,.eO _ _ (.dd _ _ _ (fun j=>vs (q.toNat*(m+1)+j)) h1 (fun a ha=>h2 a (List.mem_of_mem_drop ha)) (fun j hj=>?_) (fun j a ha=>h4 _ _ (by simpa using ha)))⟩
   rw[Nat.add_assoc]
   exact h3 _ (by simp at hj;omega)
  ·simp at hv
 ·simp at hv
theorem NB {x i:Operand} {x' i':O} {t:TypeId} (E:bV P w D ι env a) (ho:o.op=.index t x i) (ht:P.underlying t=some .string) (hx:cO P x=some x') (hi:cO P i=some i')
  (hv:cI (cV env x') (cV env i')=some v):ni P a o w D ι v:=by
 have hr:=db E hx
 have Cm:=db E hi
 unfold cI at hv
 split at hv
 ·rename_i s k q hb rf
  split at hv
  ·rename_i hq
   simp only[Option.map_eq_some_iff]at hv
   obtain⟨c,hc,rfl⟩:=hv
   rw[hb]at hr;rw[rf]at Cm
   refine⟨_,?_,.eO _ _ (.int _ _)⟩
   simp only[execOp,ho,fm hr,dc Cm,Instr.index,asIntOf,Sem.run_bind,Sem.run_pure,run_underlying ht,Result.andThen_ok,hq,if_true,hc]
  ·simp at hv
 ·simp at hv
theorem NA {x i:Operand} {x' i':O} {t e:TypeId} {ag:Bool} {len n:Nat} (E:bV P w D ι env a) (ho:o.op=.index t x i) (ht:P.underlying t=some (.array len e)) (sW:mL P e=some ag) (hn:ec P e=some n) (hx:cO P x=some x') (hi:cO P i=some i')
  (hv:cH ag len n (cV env x') (cV env i')=some v):ni P a o w D ι v:=by
 have hr:=db E hx
 have Cm:=db E hi
 unfold cH at hv
 split at hv
 ·rename_i cs k q hb rf
  split at hv
  ·rename_i hq
   rw[hb]at hr;rw[rf]at Cm
   obtain⟨vs,f,h,n1,fl,f1,r1⟩:=iw hr
   have go:∀u,(Go.part e vs (q.toNat*n)).run P w=.ok u w->(execOp a.eval o).run P w=.ok (.value u) w:=fun u hu=>by
    simp only[execOp,ho,h,dc Cm,Instr.index,asIntOf,Sem.run_bind,Sem.run_pure,run_underlying ht,Result.andThen_ok,hq,and_self,if_true,run_sizeOf hn,hu]
   unfold part at hv
   cases ag with
   |true=>
    simp only[if_true]at hv
    split at hv
    ·rename_i hl
     simp at hv;subst hv
     simp only[List.length_drop]at hl
     by_cases N3:n=0
     ·subst N3
      refine⟨_,go _ (n9 sW hn),.agg _ _ (fun _=>undef) (by simp) (fun a ha=>by simp at ha) (fun j hj=>by simp at hj) (fun j a ha=>by simp at ha)⟩
     refine⟨_,go _ (n9 sW hn),.agg _ _ (fun j=>f (q.toNat*n+j)) (by simp[n1];omega) (fun a ha=>fl a (List.mem_of_mem_drop (List.mem_of_mem_take ha))) (fun j hj=>?_) (fun j a ha=>?_)⟩
     ·simp at hj
      rw[Array.getElem?_extract,if_pos (by omega)];exact f1 _ (by omega)
     ·rw[List.getElem?_take]at ha
      split at ha
      ·exact r1 _ _ (by simpa using ha)
      ·simp at ha
    ·simp at hv
   |false=>
    simp only[Bool.false_eq_true,if_false]at hv
    have mO:cs[q.toNat*n]? =some v:=by simpa[List.head?_drop]using hv
    have dJ:=(List.getElem?_eq_some_iff.1 mO).1
    exact⟨_,go _ (lF sW (f1 _ dJ)),r1 _ _ mO⟩
  ·simp at hv
 ·simp at hv
theorem Gb {x:Operand} {x':O} {i:Nat} (E:bV P w D ι env a) (ho:o.op=.extract x i) (hx:cO P x=some x') (hv:aJ i (cV env x')=some v):ni P a o w D ι v:=by
 have hr:=db E hx
 unfold aJ at hv
 split at hv
 ·rename_i vs hb
  rw[hb]at hr
  obtain⟨us,f,h,h1,h2,h3⟩:=yw hr
  have dJ:=(List.getElem?_eq_some_iff.1 hv).1
  exact⟨_,by simp only[execOp,ho,h,Instr.extract,h2 _ dJ];rfl,h3 _ _ hv⟩
 ·simp at hv
theorem Ql {x:Operand} {x':O} {t:TypeId} {e:TypeId} {n:Nat} (E:bV P w D ι env a) (ho:o.op=.call {callee:=.builtin .len,args:= #[x],argTypes:= #[t]}) (ht:P.underlying t=some (.slice e)) (hx:cO P x=some x') (hv:dS (cV env x')=some n):ni P a o w D ι (.int .i64 n):=by
 have hr:=db E hx
 have go:∀A c,a.eval x=.slice A n c->(execOp a.eval o).run P w=.ok (.value (.int .i64 n)) w:=fun A c h=>by
  simp only[execOp,ho,resolve,Sem.run_bind,Sem.run_pure,Result.andThen_ok,invoke,builtin,Array.map,h]
  simp[Builtin.len_,run_underlying ht,goInt,h]
 refine⟨.int .i64 n,?_,.eO _ _ (.int _ _)⟩
 unfold dS at hv
 split at hv<;>simp at hv<;>subst hv<;>rename_i hb<;>rw[hb]at hr
 ·exact go _ _ (iu hr)
 ·obtain⟨A,c,h,_⟩:=uG hr;exact go _ _ h
 ·obtain⟨oo,cap,B,h,_⟩:=iy hr;exact go _ _ h
theorem ND {x:Operand} {x':O} {t:TypeId} (E:bV P w D ι env a) (ho:o.op=.call {callee:=.builtin .len,args:= #[x],argTypes:= #[t]}) (ht:P.underlying t=some .string) (hx:cO P x=some x') (hv:cK (cV env x')=some v):ni P a o w D ι v:=by
 have hr:=db E hx
 unfold cK at hv
 split at hv
 ·rename_i s hb
  simp at hv;subst hv
  rw[hb]at hr
  have h:=fm hr
  refine⟨_,?_,.eO _ _ (.int _ _)⟩
  simp only[execOp,ho,resolve,Sem.run_bind,Sem.run_pure,Result.andThen_ok,invoke,builtin,Array.map,h]
  simp[Builtin.len_,run_underlying ht,goInt,h]
 ·simp at hv
theorem l9 {isS:Bool} {len cap h l:Nat} {lo hi:Option Operand} {Lk pK:Option O} (E:bV P w D ι env a) (jW:pV P lo=some Lk) (Bb:pV P hi=some pK) (hh:dD len (pK.map (cV env))=some h) (hl:dE h (Lk.map (cV env))=some l) (hc:len<=cap):
  (Instr.sliceBounds isS len cap (lo.map a.eval) (hi.map a.eval) none).run P w=.ok (l,h,cap) w/\l<=h/\h<=len:=by
 have bound:∀(x:Operand) (y:O) (k:IntKind) (n:Int) (m:Nat) (c:BoundsCode),cO P x=some y->cV env y=.int k n->0<=n->n<=m->(Instr.sliceBound (a.eval x) m c).run P w=.ok n.toNat w:=fun x y k n m c hx hy h0 h1=>by
  have hr:=db E hx
  rw[hy]at hr
  simp only[Instr.sliceBound,dc hr,asIntOf,Sem.run_bind,Sem.run_pure,Result.andThen_ok,h0,h1,and_self,if_true]
 have H:h<=len/\((hi=none/\h=len)∨∃x,hi=some x/\∀c,(Instr.sliceBound (a.eval x) cap c).run P w=.ok h w):=by
  cases hi with
  |none=>
   simp[pV]at Bb;subst Bb
   simp[dD]at hh;subst hh
   exact⟨Nat.le_refl _,.inl ⟨rfl,rfl⟩⟩
  |some x=>
   simp only[pV,Option.map_eq_some_iff]at Bb
   obtain⟨y,hy,rfl⟩:=Bb
   simp only[Option.map_some,dD]at hh
   split at hh
   ·rename_i e;cases e
   ·rename_i k n e
    injection e with e
    split at hh
    ·rename_i hn
     simp at hh;subst hh
     exact⟨by omega,.inr ⟨x,rfl,fun c=>bound x y k n _ _ hy e hn.1 (by omega)⟩⟩
    ·simp at hh
   ·simp at hh
 have L:l<=h/\((lo=none/\l=0)∨∃x,lo=some x/\∀c,(Instr.sliceBound (a.eval x) h c).run P w=.ok l w):=by
  cases lo with
  |none=>
   simp[pV]at jW;subst jW
   simp[dE]at hl;subst hl
   exact⟨Nat.zero_le _,.inl ⟨rfl,rfl⟩⟩
  |some x=>
   simp only[pV,Option.map_eq_some_iff]at jW
   obtain⟨y,hy,rfl⟩:=jW
   simp only[Option.map_some,dE]at hl
   split at hl
   ·rename_i e;cases e
   ·rename_i k n e
    injection e with e
    split at hl
    ·rename_i hn
     simp at hl;subst hl
     exact⟨by omega,.inr ⟨x,rfl,fun c=>bound x y k n h _ hy e hn.1 hn.2⟩⟩
    ·simp at hl
   ·simp at hl
 refine⟨?_,L.1,H.1⟩
 unfold Instr.sliceBounds
 rcases H.2 with⟨rfl,rfl⟩|⟨x,rfl,hx⟩<;>rcases L.2 with⟨rfl,rfl⟩|⟨y,rfl,hy⟩<;>
  simp only[Option.map_none,Option.map_some,Sem.run_bind,Sem.run_pure,Result.andThen_ok, *]
theorem KR {x:Operand} {x':O} {lo hi:Option Operand} {Lk pK:Option O} {t e:TypeId} {m:Nat} (S:fW P hs D ι g w) (E:bV P w D ι env a) (ho:o.op=.slice t x lo hi none) (ht:P.underlying t=some (.slice e)) (hm:ec P e=some m) (hx:cO P x=some x') (jW:pV P lo=some Lk) (Bb:pV P hi=some pK)
  (hv:bF g m (cV env x') (Lk.map (cV env)) (pK.map (cV env))=some v):ni P a o w D ι v:=by
 have hr:=db E hx
 have go:∀A len cap l h,a.eval x=.slice A len cap->(Instr.sliceBounds true len cap (lo.map a.eval) (hi.map a.eval) none).run P w=.ok (l,h,cap) w->(execOp a.eval o).run P w=.ok (.value (.slice (if cap=l then A else A.map (·.add (l*m))) (h-l) (cap-l))) w:=fun A len cap l h h1 h2=>by
  simp only[execOp,ho,h1,Instr.sliceAt,Instr.slice,Sem.run_bind,Sem.run_pure,run_underlying ht,Result.andThen_ok,Option.map_none,h2,run_sizeOf hm]
 unfold bF at hv
 split at hv
 ·rename_i hb
  rw[hb]at hr
  simp only[Option.bind_eq_some_iff,Option.map_eq_some_iff]at hv
  obtain⟨h,hh,l,hl,rfl⟩:=hv
  obtain⟨q,q1,q2⟩:=l9 (w:=w) (isS:=true) (cap:=0) E jW Bb hh hl (Nat.le_refl _)
  have h0:h=0:=by omega
  have l0:l=0:=by omega
  subst h0;subst l0
  refine⟨_,go _ _ _ _ _ (iu hr) q,?_⟩
  simp;exact .eO _ _ .cq
 ·rename_i rows hb
  rw[hb]at hr
  simp only[Option.bind_eq_some_iff,Option.map_eq_some_iff]at hv
  obtain⟨h,hh,l,hl,hv⟩:=hv
  split at hv
  ·rename_i dy
   simp at hv;subst hv
   obtain⟨A,c,he,c1,c2,h3⟩:=uG hr
   obtain⟨q,q1,q2⟩:=l9 (w:=w) (isS:=true) (cap:=c) E jW Bb hh hl c1
   refine⟨_,go _ _ _ _ _ he q,.eO _ _ ?_⟩
   have hlen:((rows.drop l).take (h-l)).length=h-l:=by simp;omega
   by_cases hz:h-l=0
   ·have:(rows.drop l).take (h-l)=[]:=by rw[hz];simp
    rw[this,hz]
    exact .FP _ _ (by omega)
   ·rcases h3 with h3|⟨b,oo,sz,vs,rfl,hD,I4,fl,hc,hi⟩
    ·subst h3;simp at q2;omega
    rw[if_neg (by omega)]
    simp only[Option.map_some,jN]
    have zQ:sz=m:=by
     have dJ:l<rows.length:=by omega
     have:=dy rows[l] (List.getElem_mem dJ)
     rw[<-this,I4 _ (List.getElem_mem dJ)]
    subst zQ
    refine .sl _ b _ _ _ sz (fun i j=>vs (l+i) j) hlen (by omega) (by omega) hD (fun cs dp=>I4 cs (List.mem_of_mem_drop (List.mem_of_mem_take dp))) (fun cs dp=>fl cs (List.mem_of_mem_drop (List.mem_of_mem_take dp))) (fun i j hi hj=>?_) (fun i j cs a dp ha=>?_)
    ·rw[<-hc (l+i) j (by omega) hj,Nat.add_mul]
     congr 2;omega
    ·rw[List.getElem?_take]at dp
     split at dp
     ·exact hi _ _ _ _ (by simpa using dp) ha
     ·simp at dp
  ·simp at hv
 ·rename_i kJ off len hb
  rw[hb]at hr
  simp only[Option.bind_eq_some_iff,Option.map_eq_some_iff]at hv
  obtain⟨r,Gf,h,hh,l,hl,hv⟩:=hv
  split at hv
  ·rename_i wO
   simp at hv;subst hv
   obtain⟨oo,cap,B,he,hB,h1,h2,h3,h4,hk⟩:=iy hr
   obtain⟨B',dK,R,_,_⟩:=S.row _ _ Gf
   rw[hB]at dK;injection dK with dK;subst dK
   replace R:=R.row hk
   have eW:B.sz=m:=R.sz.trans wO
   obtain⟨q,q1,q2⟩:=l9 (w:=w) (isS:=true) (cap:=cap) E jW Bb hh hl h1
   refine⟨_,go _ _ _ _ _ he q,?_⟩
   have e1:(off+l+(cap-l))*B.sz<=B.C:=by rw[show off+l+(cap-l)=off+cap by omega];exact h3
   by_cases oB:cap=l
   ·rw[if_pos oB]
    exact .own _ _ _ _ _ B hB hk (by omega) (.inl (by omega)) e1 (by omega)
   ·rw[if_neg oB]
    simp only[Option.map_some,jN]
    have A7:oo=off*B.sz:=by rcases h2 with h2|h2<;>omega
    exact .own _ _ _ _ _ B hB hk (by omega) (.inr (by rw[A7,eW,Nat.add_mul])) e1 (by omega)
  ·simp at hv
 ·simp at hv
theorem IV {x:Operand} {x':O} {lo hi:Option Operand} {Lk pK:Option O} {t:TypeId} (E:bV P w D ι env a) (ho:o.op=.slice t x lo hi none) (ht:P.underlying t=some .string) (hx:cO P x=some x') (jW:pV P lo=some Lk) (Bb:pV P hi=some pK)
  (hv:aT (cV env x') (Lk.map (cV env)) (pK.map (cV env))=some v):ni P a o w D ι v:=by
 have hr:=db E hx
 unfold aT at hv
 split at hv
 ·rename_i s hb
  rw[hb]at hr
  simp only[Option.bind_eq_some_iff,Option.map_eq_some_iff]at hv
  obtain⟨h,hh,l,hl,rfl⟩:=hv
  obtain⟨q,_,_⟩:=l9 (w:=w) (isS:=false) E jW Bb hh hl (Nat.le_refl _)
  refine⟨_,?_,.eO _ _ (.str _)⟩
  simp only[execOp,ho,fm hr,Instr.sliceAt,Instr.slice,Sem.run_bind,Sem.run_pure,run_underlying ht,Result.andThen_ok,Option.map_none,Option.isSome_none,Bool.false_eq_true,if_false,q]
 ·simp at hv
theorem CN {xs:List Operand} {ys:List O} (E:bV P w D ι env a) (h:xs.mapM (cO P)=some ys):(xs.map a.eval).length=ys.length/\∀j y,ys[j]? =some y->da P w D ι (cV env y) ((xs.map a.eval).getD j undef):=by
 induction xs generalizing ys with
 |nil=>simp at h;subst h;simp
 |cons x r ih=>
  simp only[List.mapM_cons,Option.bind_eq_bind,Option.bind_eq_some_iff]at h
  obtain⟨c,hc,oL,dp,h⟩:=h
  simp at h;subst h
  obtain⟨h1,h2⟩:=ih dp
  refine⟨by simpa using h1,fun j d hd=>?_⟩
  cases j with
  |zero=>simp at hd ⊢;subst hd;exact db E hc
  |succ j=>simp at hd ⊢;simpa using h2 j d hd
theorem NH {f:Nat} {first cX:Array Operand} {zq:List O} (E:bV P w D ι env a) (ho:o.op=.makeFunc (.func f) first cX) (hf:first= #[]) (hc:fA P f=true) (hx:cX.toList.mapM (cO P)=some zq):ni P a o w D ι (.fn f (zq.map (cV env))):=by
 subst hf
 obtain⟨h1,h2⟩:=CN E hx
 refine⟨.func (.func f) #[] (cX.map a.eval),by simp only[execOp,ho,Instr.makeFunc,Sem.run_bind,Sem.run_pure,Result.andThen_ok];simp,.fn _ _ _ (fun j=>(cX.toList.map a.eval).getD j undef) hc (by simpa using h1) (fun j hj=>?_) (fun j x Oc=>?_)⟩
 ·simp at hj h1
  have:j<cX.size:=by omega
  simp[this]
 ·simp only[List.getElem?_map,Option.map_eq_some_iff]at Oc
  obtain⟨y,hy,rfl⟩:=Oc
  exact h2 j y hy
theorem NI {f:Nat} {first cX:Array Operand} {zq:List O} (E:bV P w D ι env a) (ho:o.op=.makeFunc (.func f) first cX) (hf:cX= #[]) (hc:fA P f=true) (hx:first.toList.mapM (cO P)=some zq):ni P a o w D ι (.ui f (zq.map (cV env))):=by
 subst hf
 obtain⟨h1,h2⟩:=CN E hx
 refine⟨.func (.func f) (first.map a.eval) #[],by simp only[execOp,ho,Instr.makeFunc,Sem.run_bind,Sem.run_pure,Result.andThen_ok];simp,.ui _ _ _ (fun j=>(first.toList.map a.eval).getD j undef) hc (by simpa using h1) (fun j hj=>?_) (fun j x Oc=>?_)⟩
 ·simp at hj h1
  have:j<first.size:=by omega
  simp[this]
 ·simp only[List.getElem?_map,Option.map_eq_some_iff]at Oc
  obtain⟨y,hy,rfl⟩:=Oc
  exact h2 j y hy
end
end Go.Proofs.YtgoljkjaameagaaGreat.V

namespace Go.Proofs.YtgoljkjaameagaaGreat.V
open Go.RowKit
variable {P:Program} {w w':World} {D D':Nat->Prop} {ι ι':Names}
def Mk (P:Program) (a:Act) (o:Oper) (w:World) (D:Nat->Prop) (ι:Names) (id:Id) (v:AV) (r:Row):Prop:=
 ∃u cells T,(execOp a.eval o).run P w=.ok (.value u) (w.alloc (.cells cells T))/\r.w=true/\r.rows.length*r.sz<=cells.size/\(∀cs∈r.rows,cs.length=r.sz)/\(∀cs∈r.rows,∀a∈cs,a.cell=true)/\
  (∀i j cs a,r.rows[i]? =some cs->cs[j]? =some a->∃x,cells[i*r.sz+j]? =some x/\da P w D ι a x)/\∀ι':Names,ι' id=some ⟨w.heap.size,r.sz,cells.size,none⟩->da P w D ι' v u
section
variable {g:Rows} {hs:Nat} {env:Env} {a:Act} {o:Oper} {id:Id} {v:AV}
theorem kL {vs:List Value} {cs:List K} (h:vs.mapM Fk=some cs):fb P w D ι (cs.map K.av) vs.toArray:=by
 obtain⟨h1,h2⟩:=qm h
 refine⟨by simp[h1],fun j a ha=>?_⟩
 simp only[List.getElem?_map,Option.map_eq_some_iff]at ha
 obtain⟨c,hc,rfl⟩:=ha
 exact⟨c.val,by simpa using h2 j c hc,uE c⟩
theorem jw {t:TypeId} {z:List K} (h:jj P t=some z):∃i v,P.info? t=some i/\i.zero=some v/\v.cells.size=i.size/\v.cells.toList.mapM Fk=some z/\z.length=i.size:=by
 unfold jj at h
 split at h
 ·rename_i i hi
  split at h
  ·rename_i v hv
   split at h
   ·rename_i hs
    exact⟨i,v,hi,hv,hs,h,by rw[(qm h).1];simpa using hs⟩
   ·simp at h
  ·simp at h
 ·simp at h
theorem D9 {cs:List AV} {cells:Array Value} (h:fb P w D ι cs cells):∀i j c a,[cs][i]? =some c->c[j]? =some a->∃x,cells[i*cs.length+j]? =some x/\da P w D ι a x:=by
 intro i j c a hi hj
 cases i with
 |zero=>simp at hi;subst hi;simpa using h.2 j a hj
 |succ i=>simp at hi
theorem PV {t:TypeId} {z:List K} (ho:o.op=.alloc t) (hz:jj P t=some z):Mk P a o w D ι id (.ptr id 0 0) ⟨true,z.length,[z.map K.av]⟩:=by
 obtain⟨i,v,hi,hv,hs,hm,hl⟩:=jw hz
 have hk:=kL (P:=P) (w:=w) (D:=D) (ι:=ι) hm
 refine⟨.pointer (some ⟨w.heap.size,0,none⟩),v.cells,t,?_,rfl,?_,?_,?_,?_,?_⟩
 ·simp only[execOp,ho,Instr.alloc,zeroValue,typeInfo,Sem.run_bind]
  simp[hi,hv,newVar,newRow]
 ·simp[hl,hs]
 ·intro cs dp;simp at dp;subst dp;simp
 ·intro cs dp x hx;simp at dp;subst dp
  obtain⟨c,_,rfl⟩:=List.mem_map.1 hx;exact c.lR
 ·have:=D9 hk;simpa using this
 ·intro ι' hι
  have:=da.ptr (P:=P) (w:=w) (D:=D) (ι:=ι') id 0 0 _ hι rfl
  simpa using this
theorem pH {x:AV} {u:Value} (h:da P w D ι x u) (hc:x.cells.all AV.cell=true):fb P w D ι x.cells u.cells:=by
 obtain⟨h1,f,h2,h3⟩:=h.cells hc
 exact⟨h1,fun j a ha=>⟨f j,h2 j (List.getElem?_eq_some_iff.1 ha).1,h3 j a ha⟩⟩
theorem PT {t:TypeId} {x:Operand} {x':O} {cs:List AV} (E:bV P w D ι env a) (ho:o.op=.box t x) (hx:cO P x=some x') (hb:cC (cV env x')=some cs):Mk P a o w D ι id (.ptr id 0 0) ⟨true,cs.length,[cs]⟩:=by
 have hr:=db E hx
 unfold cC at hb
 split at hb
 ·rename_i dy
  simp at hb;subst hb
  have hk:=pH hr dy
  refine⟨.pointer (some ⟨w.heap.size,0,none⟩),(a.eval x).cells,t,?_,rfl,?_,?_,?_,?_,?_⟩
  ·simp only[execOp,ho,Instr.box,Sem.run_bind]
   simp[newVar,newRow]
  ·simp[hk.1]
  ·intro cs dp;simp at dp;subst dp;rfl
  ·intro cs dp y hy;simp at dp;subst dp
   exact List.all_eq_true.1 dy y hy
  ·exact D9 hk
  ·intro ι' hι
   have:=da.ptr (P:=P) (w:=w) (D:=D) (ι:=ι') id 0 0 _ hι rfl
   simpa using this
 ·simp at hb
theorem foldl_set:∀(vs:List Value) (n off:Nat) (cells:Array Value),off+n+vs.length<=cells.size->((vs.zipIdx n).foldl (fun cs (x:Value×Nat)=>cs.setIfInBounds (off+x.2) x.1) cells).size=cells.size/\
  ∀k,((vs.zipIdx n).foldl (fun cs (x:Value×Nat)=>cs.setIfInBounds (off+x.2) x.1) cells)[k]? =if off+n<=k/\k<off+n+vs.length then vs[k-(off+n)]? else cells[k]?
 |[],n,off,cells,_=>⟨rfl,fun k=>by simp;intro h1 h2;omega⟩
 |v::r,n,off,cells,h=>by
  simp only[List.length_cons]at h
  obtain⟨h1,h2⟩:=foldl_set r (n+1) off (cells.setIfInBounds (off+n) v) (by simp;omega)
  simp only[List.zipIdx_cons,List.foldl_cons]
  refine⟨by rw[h1];simp,fun k=>?_⟩
  rw[h2 k]
  simp only[List.length_cons]
  by_cases hk:k=off+n
  ·subst hk
   rw[if_neg (by omega),if_pos (by omega)]
   simp[show off+n<cells.size by omega]
  ·by_cases rl:off+n<=k/\k<off+n+(r.length+1)
   ·rw[if_pos (by omega),if_pos rl]
    have:k-(off+n)=(k-(off+(n+1)))+1:=by omega
    rw[this,List.getElem?_cons_succ]
   ·rw[if_neg (by omega),if_neg rl,Array.getElem?_setIfInBounds_ne (by omega)]
theorem tK (place:Nat->Option (Nat×Nat)):∀(ps:List (Nat×Value)) (qs:List (Nat×Nat×AV)) (cells:Array Value) (cs res:List AV),fb P w D ι cs cells->(∀a∈cs,a.cell=true)->ps.length=qs.length->
  (∀(k:Nat) i u o' n x,ps[k]? =some (i,u)->qs[k]? =some (o',n,x)->place i=some (o',n)/\da P w D ι x u)->cm cs qs=some res->∃iU,Instr.fill place cells ps=some iU/\fb P w D ι res iU/\(∀a∈res,a.cell=true)/\res.length=cs.length:=by
 intro ps
 induction ps with
 |nil=>
  intro qs cells cs res hR hf hl _ hv
  cases qs with
  |nil=>simp[cm]at hv;subst hv;exact⟨cells,rfl,hR,hf,rfl⟩
  |cons q r=>simp at hl
 |cons p ps ih=>
  intro qs cells cs res hR hf hl hp hv
  cases qs with
  |nil=>simp at hl
  |cons q qs=>
   obtain⟨i,u⟩:=p
   obtain⟨oo,n,x⟩:=q
   obtain⟨lL,hr⟩:=hp 0 i u oo n x rfl rfl
   unfold cm at hv
   split at hv
   ·rename_i hc
    obtain⟨c1,c2,c3⟩:=hc
    have hk:=pH hr c3
    have Q7:u.cells.size=n:=by rw[hk.1,c1]
    have dp:cells.size=cs.length:=hR.1
    unfold Instr.fill
    simp only[lL]
    rw[if_neg (by rw[Q7,dp];simp;omega)]
    obtain⟨s1,s2⟩:=foldl_set u.cells.toList 0 oo cells (by simp;omega)
    have e0:(u.cells.zipIdx.foldl (fun cs (x:Value×Nat)=>cs.setIfInBounds (oo+x.2) x.1) cells)=(u.cells.toList.zipIdx 0).foldl (fun cs (x:Value×Nat)=>cs.setIfInBounds (oo+x.2) x.1) cells:=by
     rw[<-Array.foldl_toList];simp
    have sH:=ih qs (u.cells.zipIdx.foldl (fun cs (x:Value×Nat)=>cs.setIfInBounds (oo+x.2) x.1) cells) (cs.take oo++x.cells++cs.drop (oo+n)) res ?_ ?_ (by simpa using hl) (fun k i u o' n x h1 h2=>hp (k+1) i u o' n x (by simpa using h1) (by simpa using h2)) hv
    ·obtain⟨iU,h1,h2,h3,h4⟩:=sH
     refine⟨iU,h1,h2,h3,?_⟩
     rw[h4];simp;omega
    ·rw[e0]
     refine⟨by rw[s1,dp];simp;omega,fun j a ha=>?_⟩
     rw[s2 j]
     simp only[Nat.add_zero,Array.length_toList]
     by_cases hj:oo<=j/\j<oo+u.cells.size
     ·rw[if_pos hj]
      rw[List.append_assoc,List.getElem?_append_right (by simp;omega),List.getElem?_append_left (by simp;omega)]at ha
      simp only[List.length_take]at ha
      rw[show min oo cs.length=oo by omega]at ha
      simpa using hk.2 _ _ ha
     ·rw[if_neg hj]
      by_cases NX:j<oo
      ·rw[List.append_assoc,List.getElem?_append_left (by simp;omega),List.getElem?_take,if_pos NX]at ha
       exact hR.2 _ _ ha
      ·rw[List.getElem?_append_right (by simp;omega)]at ha
       simp only[List.length_append,List.length_take,List.getElem?_drop]at ha
       rw[show oo+n+(j-(min oo cs.length+x.cells.length))=j by omega]at ha
       exact hR.2 _ _ ha
    ·intro b hb
     rcases List.mem_append.1 hb with hb|hb
     ·rcases List.mem_append.1 hb with hb|hb
      ·exact hf b (List.mem_of_mem_take hb)
      ·exact List.all_eq_true.1 c3 b hb
     ·exact hf b (List.mem_of_mem_drop hb)
   ·simp at hv
theorem vC {fs:List Field} (h:∀f∈fs,(P.info? f.type).isSome=true):∃ym,fs.mapM (fun f=>(P.info? f.type).map fun i=>(f.offset,i.size))=some ym/\∀(i:Nat) (f:Field) (n:Nat),fs[i]? =some f->ec P f.type=some n->ym[i]? =some (f.offset,n):=by
 induction fs with
 |nil=>exact⟨[],rfl,fun i f n h=>by simp at h⟩
 |cons f r ih=>
  obtain⟨q,h1,h2⟩:=ih (fun x hx=>h x (List.mem_cons_of_mem _ hx))
  obtain⟨i,hi⟩:=Option.isSome_iff_exists.1 (h f (by simp))
  refine⟨(f.offset,i.size)::q,by simp[hi,h1],fun k x n hk hn=>?_⟩
  cases k with
  |zero=>simp at hk;subst hk;simp[ec,hi]at hn;subst hn;rfl
  |succ k=>simp at hk ⊢;exact h2 k x n hk hn
theorem o5 {ps:List (Nat×Operand)} {l:List (Nat×O)} (E:bV P w D ι env a) (h:ps.mapM (fun(x:Nat×Operand)=>(cO P x.2).map (x.1,·))=some l):l.length=ps.length/\∀(k i:Nat) (y:O),l[k]? =some (i,y)->∃x,ps[k]? =some (i,x)/\cO P x=some y:=by
 induction ps generalizing l with
 |nil=>simp at h;subst h;simp
 |cons p r ih=>
  simp only[List.mapM_cons,Option.bind_eq_bind,Option.bind_eq_some_iff]at h
  obtain⟨c,hc,oL,dp,h⟩:=h
  simp at h;subst h
  obtain⟨h1,h2⟩:=ih dp
  simp only[Option.map_eq_some_iff]at hc
  obtain⟨y,hy,rfl⟩:=hc
  refine⟨by simp[h1],fun k i z hk=>?_⟩
  cases k with
  |zero=>simp at hk;obtain⟨rfl,rfl⟩:=hk;exact⟨p.2,rfl,hy⟩
  |succ k=>simp at hk ⊢;exact h2 k i z hk
theorem BD {fs:Array Field} {l:List (Nat×O)} {q:List (Nat×Nat×O)} (h:qT P fs l=some q):q.length=l.length/\∀(k oo n:Nat) (y:O),q[k]? =some (oo,n,y)->∃(i:Nat) (f:Field),l[k]? =some (i,y)/\fs[i]? =some f/\f.offset=oo/\ec P f.type=some n:=by
 induction l generalizing q with
 |nil=>simp[qT]at h;subst h;simp
 |cons p r ih=>
  obtain⟨i,x⟩:=p
  unfold qT at h
  split at h
  ·rename_i f hf
   split at h
   ·rename_i n hn
    simp only[Option.map_eq_some_iff]at h
    obtain⟨q',Gi,rfl⟩:=h
    obtain⟨h1,h2⟩:=ih Gi
    refine⟨by simp[h1],fun k oo m y hk=>?_⟩
    cases k with
    |zero=>simp at hk;obtain⟨rfl,rfl,rfl⟩:=hk;exact⟨i,f,rfl,hf,rfl,hn⟩
    |succ k=>simp only[List.getElem?_cons_succ]at hk ⊢;exact h2 k oo m y hk
   ·simp at h
  ·simp at h
theorem fb.agg {xs:List AV} {vs:Array Value} (h:fb P w D ι xs vs) (hf:∀a∈xs,a.cell=true):da P w D ι (.agg xs) (.agg vs):=
 .agg xs vs (fun j=>vs.getD j undef) h.1 hf (fun j hj=>by
  have:j<vs.size:=by rw[h.1];exact hj
  simp[this]) (fun j a ha=>by
  obtain⟨u,h1,h2⟩:=h.2 j a ha
  simpa[Array.getD_eq_getD_getElem?,h1]using h2)
theorem KN {t:TypeId} {ps:Array (Nat×Operand)} {fs:Array Field} {z:List K} {l:List (Nat×O)} {q:List (Nat×Nat×O)} {cs:List AV} (E:bV P w D ι env a) (ho:o.op=.build t ps) (ht:P.underlying t=some (.struct fs)) (hz:jj P t=some z) (hl:qW P ps=some l)
  (qb:∀f∈fs.toList,(P.info? f.type).isSome=true) (hq:qT P fs l=some q) (hv:cm (z.map K.av) (q.map fun(o,n,x)=>(o,n,cV env x))=some cs):ni P a o w D ι (.agg cs):=by
 obtain⟨it,zv,hi,tY,hs,hm,DV⟩:=jw hz
 obtain⟨ym,lL,SU⟩:=vC qb
 have hk:=kL (P:=P) (w:=w) (D:=D) (ι:=ι) hm
 obtain⟨n1,r1⟩:=o5 E hl
 obtain⟨n2,r2⟩:=BD hq
 obtain⟨iU,h1,h2,h3,_⟩:=tK (P:=P) (w:=w) (D:=D) (ι:=ι) (ym.toArray[·]?) (ps.toList.map fun(i,x)=>(i,a.eval x)) (q.map fun(o,n,x)=>(o,n,cV env x)) zv.cells _ cs (by simpa using hk)
  (fun b hb=>by obtain⟨c,_,rfl⟩:=List.mem_map.1 hb;exact c.lR) (by simp[n2,n1]) (fun k i u o' n x ph rl=>by
   simp only[List.getElem?_map,Option.map_eq_some_iff]at ph rl
   obtain⟨⟨i',x'⟩,hp,e1⟩:=ph
   obtain⟨⟨o2,n',y⟩,Gi,e2⟩:=rl
   simp only[Prod.mk.injEq]at e1 e2
   obtain⟨rfl,rfl⟩:=e1
   obtain⟨rfl,rfl,rfl⟩:=e2
   obtain⟨i2,f,Hu,hf,rfl,hn⟩:=r2 _ _ _ _ Gi
   obtain⟨x2,y4,hc⟩:=r1 _ _ _ Hu
   rw[hp]at y4
   simp only[Option.some.injEq,Prod.mk.injEq]at y4
   obtain⟨rfl,rfl⟩:=y4
   exact⟨by simpa using SU _ _ _ (by simpa using hf) hn,db E hc⟩) hv
 refine⟨.agg iU,?_,h2.agg h3⟩
 have hb:P.built t ((ps.map fun(i,x)=>(i,a.eval x)).toList)=some iU:=by
  unfold Program.built
  simp only[hi,ht,tY,lL]
  simpa using h1
 simp only[execOp,ho,Sem.run_bind,run_build w t _ _ hb,Result.andThen_ok,Sem.run_pure]
theorem IU {t e:TypeId} {len n:Nat} {ps:Array (Nat×Operand)} {z:List K} {l:List (Nat×O)} {cs:List AV} (E:bV P w D ι env a) (ho:o.op=.build t ps) (ht:P.underlying t=some (.array len e)) (hz:jj P t=some z) (hl:qW P ps=some l) (hn:ec P e=some n)
  (hv:cm (z.map K.av) ((l.map fun(x:Nat×O)=>(x.1*n,n,x.2)).map fun(o,n,x)=>(o,n,cV env x))=some cs):ni P a o w D ι (.agg cs):=by
 obtain⟨it,zv,hi,tY,hs,hm,DV⟩:=jw hz
 have hk:=kL (P:=P) (w:=w) (D:=D) (ι:=ι) hm
 obtain⟨n1,r1⟩:=o5 E hl
 obtain⟨ie,E8,eW⟩:∃ie,P.info? e=some ie/\ie.size=n:=by simpa[ec]using hn
 obtain⟨iU,h1,h2,h3,_⟩:=tK (P:=P) (w:=w) (D:=D) (ι:=ι) (fun i=>some (i*ie.size,ie.size)) (ps.toList.map fun(i,x)=>(i,a.eval x)) ((l.map fun(x:Nat×O)=>(x.1*n,n,x.2)).map fun(o,n,x)=>(o,n,cV env x)) zv.cells _ cs (by simpa using hk)
  (fun b hb=>by obtain⟨c,_,rfl⟩:=List.mem_map.1 hb;exact c.lR) (by simp[n1]) (fun k i u o' n' x ph rl=>by
   simp only[List.getElem?_map,Option.map_eq_some_iff]at ph rl
   obtain⟨⟨i',x'⟩,hp,e1⟩:=ph
   obtain⟨⟨o2,n2,y⟩,⟨⟨i2,y2⟩,Hu,e3⟩,e2⟩:=rl
   simp only[Prod.mk.injEq]at e1 e2 e3
   obtain⟨rfl,rfl⟩:=e1
   obtain⟨rfl,rfl,rfl⟩:=e2
   obtain⟨rfl,rfl,rfl⟩:=e3
   obtain⟨x2,y4,hc⟩:=r1 _ _ _ Hu
   rw[hp]at y4
   simp only[Option.some.injEq,Prod.mk.injEq]at y4
   obtain⟨rfl,rfl⟩:=y4
   exact⟨by rw[eW],db E hc⟩) hv
 refine⟨.agg iU,?_,h2.agg h3⟩
 have hb:P.built t ((ps.map fun(i,x)=>(i,a.eval x)).toList)=some iU:=by
  unfold Program.built
  simp only[hi,ht,tY,E8]
  simpa using h1
 simp only[execOp,ho,Sem.run_bind,run_build w t _ _ hb,Result.andThen_ok,Sem.run_pure]
theorem tJ:∀(vs:List AV) (sz i:Nat) (rs:List (List AV)) (cs:List AV),0<sz->cs.length=(i+vs.length)*sz->rowsOf sz vs=some rs->
  cm cs ((vs.zipIdx i).map fun(v,j)=>(j*sz,sz,v))=some (cs.take (i*sz)++rs.flatten)/\rs.length=vs.length/\(∀c∈rs,c.length=sz)/\∀c∈rs,∀x∈c,x.cell=true
 |[],sz,i,rs,cs,_,hl,h=>by
  simp[rowsOf]at h;subst h
  simp at hl
  simp[cm,List.take_of_length_le (show cs.length<=i*sz by omega)]
 |v::r,sz,i,rs,cs,eW,hl,h=>by
  simp only[rowsOf,Option.bind_eq_some_iff,Option.map_eq_some_iff]at h
  obtain⟨c,hc,rs',wO,rfl⟩:=h
  unfold rowOf at hc
  split at hc
  ·rename_i zM
   simp at hc;subst hc
   obtain⟨oA,B7⟩:=zM
   simp only[List.length_cons]at hl
   have hmul:(i+(r.length+1))*sz=i*sz+sz+r.length*sz:=by rw[Nat.add_mul,Nat.add_mul];omega
   have ih:=tJ r sz (i+1) rs' (cs.take (i*sz)++v.cells++cs.drop (i*sz+sz)) eW (by
    simp[oA];rw[Nat.add_mul,Nat.add_mul];omega) wO
   refine⟨?_,by simp[ih.2.1],?_,?_⟩
   ·simp only[List.zipIdx_cons,List.map_cons,cm]
    rw[if_pos ⟨oA,by omega,B7⟩,ih.1]
    congr 1
    rw[List.flatten_cons,<-List.append_assoc]
    congr 1
    rw[Nat.add_mul,Nat.one_mul,List.take_append_of_le_length (by simp[oA];omega)]
    rw[List.take_of_length_le (by simp[oA];omega)]
   ·intro c' jR;rcases List.mem_cons.1 jR with rfl|jR
    ·exact oA
    ·exact ih.2.2.1 c' jR
   ·intro c' jR;rcases List.mem_cons.1 jR with rfl|jR
    ·exact List.all_eq_true.1 B7
    ·exact ih.2.2.2 c' jR
  ·simp at hc
theorem flat_get {α:Type} {nq:List (List α)} {sz:Nat} (h:∀cs∈nq,cs.length=sz) {i j:Nat} {cs:List α} {a:α} (hi:nq[i]? =some cs) (hj:cs[j]? =some a):nq.flatten[i*sz+j]? =some a:=by
 induction nq generalizing i with
 |nil=>simp at hi
 |cons c r ih=>
  have hc:c.length=sz:=h c (by simp)
  cases i with
  |zero=>
   simp at hi;subst hi
   have dJ:=(List.getElem?_eq_some_iff.1 hj).1
   rw[List.flatten_cons,List.getElem?_append_left (by omega)];simpa using hj
  |succ i=>
   rw[List.flatten_cons,List.getElem?_append_right (by rw[hc,Nat.succ_mul];omega)]
   have:(i+1)*sz+j-c.length=i*sz+j:=by rw[hc,Nat.succ_mul];omega
   rw[this]
   exact ih (fun cs dp=>h cs (List.mem_cons_of_mem _ dp)) (by simpa using hi)
theorem Hc {α:Type} {nq:List (List α)} {sz:Nat} (h:∀cs∈nq,cs.length=sz):nq.flatten.length=nq.length*sz:=by
 induction nq with
 |nil=>simp
 |cons c r ih=>
  rw[List.flatten_cons,List.length_append,h c (by simp),ih (fun cs dp=>h cs (List.mem_cons_of_mem _ dp)),List.length_cons,Nat.succ_mul];omega
theorem nQ {zv:Value} {z:List K} {n:Nat} (hm:zv.cells.toList.mapM Fk=some z) (kO:0<z.length):∀k,k<n->∃c,z[k % z.length]? =some c/\((Array.range n).map (zv.cells[· % zv.cells.size]!))[k]? =some c.val:=by
 intro k hk
 obtain⟨h1,h2⟩:=qm hm
 have eW:zv.cells.size=z.length:=by simpa using h1.symm
 have dJ:k % z.length<z.length:=Nat.mod_lt _ kO
 refine⟨z[k % z.length],List.getElem?_eq_getElem dJ,?_⟩
 have h3:=h2 _ _ (List.getElem?_eq_getElem dJ)
 simp only[Array.getElem?_toList]at h3
 have zP:k % z.length<zv.cells.size:=by rw[eW];exact dJ
 rw[Array.getElem?_map,Array.getElem?_range,if_pos hk]
 simp only[Option.map_some]
 rw[eW,getElem!_pos zv.cells (k % z.length) zP]
 rw[Array.getElem?_eq_getElem zP]at h3
 exact h3
theorem HS {t e:TypeId} {len sz:Nat} {ps:Array (Nat×Operand)} {z:List K} {l:List (Nat×O)} {rs:List (List AV)} (E:bV P w D ι env a) (ho:o.op=.buildSlice t len ps) (ht:P.underlying t=some (.slice e)) (eW:ec P e=some (sz+1)) (hz:jj P e=some z)
  (hl:qW P ps=some l) (Gl:len*(sz+1)<=4096) (PA:l.map (·.1)=List.range len) (hv:rowsOf (sz+1) (l.map fun x=>cV env x.2)=some rs):Mk P a o w D ι id (.own id 0 len) ⟨true,sz+1,rs⟩:=by
 obtain⟨it,zv,hi,tY,hs,hm,DV⟩:=jw hz
 have jg:it.size=sz+1:=by simpa[ec,hi]using eW
 obtain⟨n1,r1⟩:=o5 E hl
 have JK:l.length=len:=by have:=congrArg List.length PA;simpa using this
 by_cases h0:len=0
 ·subst h0
  have NZ:l=[]:=List.length_eq_zero_iff.1 JK
  subst NZ
  simp[rowsOf]at hv;subst hv
  have Q0:ps= #[]:=by
   apply Array.ext';apply List.eq_nil_of_length_eq_zero;rw[<-n1];rfl
  subst Q0
  refine⟨.slice (some ⟨w.heap.size,0,none⟩) 0 0, #[],e,?_,rfl,by simp,by simp,by simp,fun i j cs x hi=>by simp at hi,fun ι' hι=>?_⟩
  ·simp[execOp,ho,Instr.buildSlice,run_underlying ht,sizeOf,typeInfo,hi,Instr.fill,newRow,Array.range_zero']
  ·exact .own _ 0 0 0 0 _ hι rfl (Nat.le_refl _) (.inl rfl) (by simp) (by simp[maxLen])
 ·have vd:fb P w D ι ((List.range (len*(sz+1))).map fun k=>(z.getD (k % z.length) .cq).av) ((Array.range (len*(sz+1))).map (zv.cells[· % zv.cells.size]!)):=by
   refine⟨by simp,fun j x hx=>?_⟩
   simp only[List.getElem?_map,Option.map_eq_some_iff]at hx
   obtain⟨k,hk,rfl⟩:=hx
   have jy:=(List.getElem?_eq_some_iff.1 hk).1
   simp at jy
   rw[List.getElem?_range jy]at hk
   injection hk with hk
   subst hk
   obtain⟨c,hc,QL⟩:=nQ hm (by rw[DV,jg];omega) j jy
   exact⟨c.val,QL,by rw[List.getD_eq_getElem?_getD,hc];exact uE c⟩
  obtain⟨f1,f2,f3,f4⟩:=tJ (l.map fun x=>cV env x.2) (sz+1) 0 rs ((List.range (len*(sz+1))).map fun k=>(z.getD (k % z.length) .cq).av) (by omega) (by simp[JK]) hv
  obtain⟨iU,h1,h2,h3,h4⟩:=tK (P:=P) (w:=w) (D:=D) (ι:=ι) (fun i=>some (i*it.size,it.size)) (ps.toList.map fun(i,x)=>(i,a.eval x)) _ _ _ _ vd
   (fun b hb=>by obtain⟨c,_,rfl⟩:=List.mem_map.1 hb;exact K.lR _) (by simp[n1]) (fun k i u o' n x ph rl=>by
   simp only[List.getElem?_map,Option.map_eq_some_iff]at ph rl
   obtain⟨⟨i',x'⟩,hp,e1⟩:=ph
   obtain⟨⟨v2,j2⟩,Gi,e2⟩:=rl
   simp only[Prod.mk.injEq]at e1 e2
   obtain⟨rfl,rfl⟩:=e1
   obtain⟨rfl,rfl,rfl⟩:=e2
   rw[List.getElem?_zipIdx]at Gi
   simp only[List.getElem?_map,Option.map_map,Option.map_eq_some_iff,Function.comp_apply,Prod.mk.injEq,Nat.zero_add]at Gi
   obtain⟨⟨i2,y⟩,Hu,rfl,rfl⟩:=Gi
   obtain⟨x2,y4,hc⟩:=r1 _ _ _ Hu
   rw[hp]at y4
   simp only[Option.some.injEq,Prod.mk.injEq]at y4
   obtain⟨rfl,rfl⟩:=y4
   have wJ:(l.map (·.1))[k]? =some i':=by rw[List.getElem?_map,Hu];rfl
   have jy:=(List.getElem?_eq_some_iff.1 wJ).1
   rw[PA]at wJ
   simp at jy
   rw[List.getElem?_range (by omega)]at wJ
   injection wJ with wJ
   subst wJ
   exact⟨by rw[jg],db E hc⟩) f1
  simp only[Nat.zero_mul,List.take_zero,List.nil_append,List.length_map]at h2 h3 h4 f2
  have dp:iU.size=len*(sz+1):=by rw[h2.1,h4];simp
  refine⟨.slice (some ⟨w.heap.size,0,none⟩) len len,iU,e,?_,rfl,?_,f3,f4,fun i j cs x pK hj=>h2.2 _ _ (flat_get f3 pK hj),fun ι' hι=>?_⟩
  ·have fX:=run_buildSlice (P:=P) w t e len (ps.map fun(i,x)=>(i,a.eval x)) iU it zv ht hi tY (by rw[jg];omega) (by rw[jg];exact Nat.mul_ne_zero h0 (by omega)) (by rw[<-jg]at h1;simpa using h1)
   simp only[execOp,ho,Sem.run_bind,fX,Result.andThen_ok,Sem.run_pure]
  ·dsimp only;rw[f2,JK,dp];exact Nat.le_refl _
  ·refine .own _ 0 len 0 len _ hι rfl (Nat.le_refl _) (.inr (by simp)) ?_ (by simp only[maxLen];have:=Nat.le_mul_of_pos_right len (show 0<sz+1 by omega);omega)
   dsimp only;rw[dp];simp
theorem Fy {t e:TypeId} {it:TypeInfo} {m:Nat} {z:List K} {l c:Operand} {l' c':O} {n:Nat} {r:Row} (E:bV P w D ι env a) (ho:o.op=.makeSlice t l c) (ht:P.underlying t=some (.slice e)) (eW:ec P e=some (m+1)) (hz:jj P e=some z) (NW:P.info? e=some it) (hby:it.bytes<=32768)
  (hl:cO P l=some l') (hc:cO P c=some c') (hv:gD z (cV env l') (cV env c')=some (n,r)):Mk P a o w D ι id (.own id 0 n) r:=by
 obtain⟨it',zv,hi,tY,hs,hm,DV⟩:=jw hz
 rw[NW]at hi;injection hi with hi;subst hi
 have jg:it.size=m+1:=by simpa[ec,NW]using eW
 unfold gD at hv
 split at hv
 ·rename_i k1 ln k2 cn e1 e2
  split at hv
  ·rename_i hb
   obtain⟨b1,b2,b3⟩:=hb
   simp at hv
   obtain⟨rfl,rfl⟩:=hv
   have r1:=dc (e1▸db E hl)
   have r2:=dc (e2▸db E hc)
   unfold dv at b3
   have OZ:(it.bytes:Int)*cn<=281474976710656:=by
    have h1:(it.bytes:Int)<=32768:=by omega
    have h2:(it.bytes:Int)*cn<=32768*16777216:=Int.mul_le_mul h1 (by omega) (by omega) (by omega)
    omega
   have fX:=run_make (P:=P) w t e it zv ht NW tY k1 k2 ln cn b1 b2 OZ (by omega)
   have jV:∀k,k<cn.toNat*it.size->∃x,z[k % z.length]? =some x/\(madeCells zv.cells (cn.toNat*it.size))[k]? =some x.val:=fun k hk=>nQ hm (by rw[DV,jg];omega) k hk
   refine⟨.slice (some ⟨w.heap.size,0,none⟩) ln.toNat cn.toNat,madeCells zv.cells (cn.toNat*it.size),e,by simp only[execOp,ho,r1,r2,Sem.run_bind,fX,Result.andThen_ok,Sem.run_pure],rfl,?_,?_,?_,?_,fun ι' hι=>?_⟩
   ·simp only[List.length_replicate,size_madeCells,DV]
    exact Nat.mul_le_mul_right _ (by omega)
   ·intro cs dp
    have:=List.eq_of_mem_replicate dp
    subst this;simp
   ·intro cs dp x hx
    have:=List.eq_of_mem_replicate dp
    subst this
    obtain⟨c,_,rfl⟩:=List.mem_map.1 hx;exact c.lR
   ·intro i j cs x pK hj
    have mC:=(List.getElem?_eq_some_iff.1 pK).1
    have:=List.eq_of_mem_replicate (List.mem_of_getElem? pK)
    subst this
    simp only[List.length_replicate]at mC
    simp only[List.getElem?_map,Option.map_eq_some_iff]at hj
    obtain⟨q,hq,rfl⟩:=hj
    have gq:=(List.getElem?_eq_some_iff.1 hq).1
    dsimp only
    obtain⟨x,hx,y4⟩:=jV (i*z.length+j) (by
     rw[<-DV]
     calc i*z.length+j<i*z.length+z.length:=by omega
      _=(i+1)*z.length:=by rw[Nat.add_mul,Nat.one_mul]
      _<=cn.toNat*z.length:=Nat.mul_le_mul_right _ (by omega))
    rw[Nat.mul_comm i,Nat.mul_add_mod,Nat.mod_eq_of_lt gq,hq]at hx
    injection hx with hx;subst hx
    exact⟨_,by rw[Nat.mul_comm i]at y4 ⊢;exact y4,uE q⟩
   ·refine .own _ 0 _ 0 _ _ hι rfl (by omega) (.inr (by simp)) ?_ (by simp only[maxLen];omega)
    dsimp only;rw[size_madeCells,DV];simp
  ·simp at hv
 ·simp at hv
end
end Go.Proofs.YtgoljkjaameagaaGreat.V

namespace Go.Proofs.YtgoljkjaameagaaGreat.V
open Go.RowKit
variable {P:Program} {w w':World} {D D':Nat->Prop} {ι ι':Names}
def Dk (P:Program) (k:TypeId) (m:MK):Prop:=
 (∃s,m=⟨false,[s]⟩/\eZ P k=some s)∨
 (∃fs ts,m=⟨true,ts⟩/\P.underlying k=some (.struct fs)/\ew P 4 0 fs.toList=some ts/\P.stoodInHeld k=false/\∀f∈fs.toList,(eZ P f.type).isSome=true)
theorem pU {t:TypeId} {m:MK} {z:K} (h:qV P t=some (m,z)):∃k e i zv,P.underlying t=some (.map k e)/\P.info? e=some i/\i.zero=some zv/\Fk zv=some z/\Dk P k m:=by
 unfold qV at h
 split at h
 ·rename_i k e ht
  split at h
  ·rename_i zv s h1 h2 h3
   simp only[Option.map_eq_some_iff,Prod.mk.injEq]at h
   obtain⟨z',hz,rfl,rfl⟩:=h
   simp only[Option.bind_eq_some_iff]at h2
   obtain⟨i,hi,tY⟩:=h2
   exact⟨k,e,i,zv,ht,hi,tY,hz,.inl ⟨s,rfl,h3⟩⟩
  ·rename_i zv fs h1 h2 h3 h4
   split at h
   ·rename_i ts z' vK hz
    split at h
    ·rename_i hc
     simp only[Option.some.injEq,Prod.mk.injEq]at h
     obtain⟨rfl,rfl⟩:=h
     simp only[Option.bind_eq_some_iff]at h2
     obtain⟨i,hi,tY⟩:=h2
     simp only[Bool.not_eq_true',List.all_eq_true]at hc
     exact⟨k,e,i,zv,ht,hi,tY,hz,.inr ⟨fs,ts,rfl,h4,vK,hc.1,hc.2⟩⟩
    ·cases h
   ·cases h
  ·cases h
 ·cases h
theorem uJ {t:TypeId} {s:TS} (ht:eZ P t=some s) (em:Bool) (n:Nat) (v:Value):(Instr.checkKey em (n+1) t v).run P w=.ok () w:=by
 unfold Instr.checkKey
 cases s with
 |tB=>simp[run_underlying (oa ht)]
 |tS=>simp[run_underlying (od ht)]
 |tI=>
  obtain⟨q,hq⟩:=oc ht
  simp[run_underlying hq]
theorem uK (em:Bool) (n:Nat) (vs:Array Value):∀(d:Nat) (fs:List Field) (off:Nat) (ts:List TS),ew P (d+1) off fs=some ts->(∀f∈fs,(eZ P f.type).isSome=true)->off+ts.length<=vs.size->
  Sem.run P (forIn fs PUnit.unit fun f (_:PUnit)=>if f.name≠ "_" then do
    let x <-Go.part f.type vs f.offset
    Instr.checkKey em (n+1) f.type x
    pure (ForInStep.yield PUnit.unit)
   else pure (ForInStep.yield PUnit.unit)) w=Result.ok PUnit.unit w
 |d,[],off,ts,_,_,_=>by simp
 |d,f::r,off,ts,hf,hs,hl=>by
  rw[wq]at hf
  split at hf
  ·rename_i hcond
   obtain⟨ho,gM⟩:=hcond
   split at hf
   ·rename_i s N9
    split at hf
    ·rename_i sW
     simp only[Option.map_eq_some_iff]at hf
     obtain⟨Jc,hr,rfl⟩:=hf
     simp only[List.length_cons]at hl
     have ih:=uK em n vs d r (off+1) Jc hr (fun f hf=>hs f (List.mem_cons_of_mem _ hf)) (by omega)
     have hu:vs[off]? =some vs[off]:=by simp
     simp only[List.forIn_cons,Sem.run_bind,if_pos gM,ho,lF sW hu,Result.andThen_ok,uJ N9,Sem.run_pure]
     exact ih
    ·cases hf
   ·rename_i hn
    have:=hs f (by simp)
    rw[hn]at this;cases this
  ·cases hf
theorem CU {k:TypeId} {m:MK} (hk:Dk P k m) (em:Bool) (key:AV) (u:Value) (sW:key.isAgg=m.ka) (hlen:key.cells.length=m.ks) (hr:da P w D ι key u):(Instr.checkKey em 10000 k u).run P w=.ok () w:=by
 rcases hk with⟨s,rfl,hs⟩|⟨fs,ts,rfl,qb,vK,dL,dy⟩
 ·exact uJ hs em 9999 u
 ·cases key<;>simp[AV.isAgg]at sW
  rename_i cs
  obtain⟨vs,f,rfl,h1,_⟩:=iw hr
  unfold Instr.checkKey
  simp only[Sem.run_bind,run_underlying qb,Result.andThen_ok]
  rw[<-Array.forIn_toList]
  have h:=uK (P:=P) (w:=w) em 9998 vs 3 fs.toList 0 ts vK dy (by simp[AV.cells,MK.ks]at hlen;omega)
  rw[h]
  rfl
theorem GM (a b:ByteArray):(a==b)=decide (a=b):=by
 by_cases h:a=b
 ·subst h;rw[decide_eq_true rfl]
  obtain⟨x⟩:=a
  show(x==x)=true
  simp
 ·rw[decide_eq_false h,Bool.eq_false_iff]
  intro hc
  obtain⟨x⟩:=a
  obtain⟨y⟩:=b
  exact h (by rw[show x=y by simpa using(show(x==y)=true from hc)])
theorem Im {t:TypeId} {s:TS} {x y:AV} {u v:Value} {b:Bool} {d:TypeDesc} (ht:eZ P t=some s) (hd:P.underlying t=some d) (he:fF s x y=some b) (hx:da P w D ι x u) (hy:da P w D ι y v):Instr.sameNow d u v=some b:=by
 unfold fF at he
 split at he
 ·rename_i k n k' n'
  split at he
  ·rename_i hk
   subst hk
   simp at he;subst he
   obtain⟨q,hq⟩:=oc ht
   rw[hd]at hq;injection hq with hq;subst hq
   rw[dc hx,dc hy]
   simp[Instr.sameNow]
   rfl
  ·cases he
 ·simp at he;subst he
  have hq:=oa ht
  rw[hd]at hq;injection hq with hq;subst hq
  rw[eT hx,eT hy];rfl
 ·rename_i a c
  simp at he;subst he
  have hq:=od ht
  rw[hd]at hq;injection hq with hq;subst hq
  rw[fm hx,fm hy]
  simp only[Instr.sameNow,GM]
 ·cases he
def Found (es:List MapEntry) (i:Nat) (r:Option Nat) (res:Option (Nat×Value)):Prop:=(r=none/\res=none)∨∃j e,r=some (i+j)/\es[j]? =some e/\res=some (i+j,e.val)
theorem tM {e:MapEntry} {es:List MapEntry} {i:Nat} {r:Option Nat} {res:Option (Nat×Value)} (h:Found es (i+1) r res):Found (e::es) i r res:=by
 rcases h with h|⟨j,x,h1,h2,h3⟩
 ·exact .inl h
 ·exact .inr ⟨j+1,x,by rw[h1];congr 1;omega,by simpa using h2,by rw[h3];congr 2;omega⟩
theorem zC {t:TypeId} {s:TS} {d:TypeDesc} {x:AV} {u:Value} (ht:eZ P t=some s) (hd:P.underlying t=some d) (hx:da P w D ι x u):∀(rows:List (List AV)) (es:List MapEntry) (i:Nat) (r:Option Nat),es.length=rows.length->
  (∀(j:Nat) (cs:List AV),rows[j]? =some cs->∃(e:MapEntry) (kv:AV),es[j]? =some e/\cs.head? =some kv/\da P w D ι kv e.key)->fI ⟨false,[s]⟩ [x] rows i=some r->∃res,Instr.findNow d u es i=some res/\Found es i r res
 |[],[],i,r,_,_,h=>by
  simp[fI]at h;subst h
  exact⟨none,rfl,.inl ⟨rfl,rfl⟩⟩
 |[],e::es,i,r,hl,_,h=>by simp at hl
 |cs::rows,[],i,r,hl,_,h=>by simp at hl
 |cs::rows,e::es,i,r,hl,hr,h=>by
  obtain⟨e',kv,xQ,hk,gK⟩:=hr 0 cs rfl
  simp at xQ;subst xQ
  have dp:cs.take (MK.ks ⟨false,[s]⟩)=[kv]:=by
   cases cs with
   |nil=>simp at hk
   |cons a l=>simp at hk;subst hk;simp[MK.ks]
  unfold fI at h
  rw[dp]at h
  cases hq:fF s x kv with
  |none=>simp[eL,hq]at h
  |some b=>
   have hs:=Im ht hd hq hx gK
   cases b with
   |true=>
    simp[eL,hq]at h;subst h
    exact⟨some (i,e.val),by simp[Instr.findNow,hs],.inr ⟨0,e,rfl,rfl,rfl⟩⟩
   |false=>
    simp[eL,hq]at h
    obtain⟨res,h1,h2⟩:=zC ht hd hx rows es (i+1) r (by simpa using hl) (fun j cs hj=>hr (j+1) cs (by simpa using hj)) h
    exact⟨res,by simp[Instr.findNow,hs,h1],tM h2⟩
theorem oQ {t:TypeId} {fs:Array Field} {ts:List TS} {xs ys:List AV} {vs us:Array Value} {b:Bool} (qb:P.underlying t=some (.struct fs)) (dL:P.stoodInHeld t=false) (vK:ew P 4 0 fs.toList=some ts) (hx:fb P w D ι xs vs) (hy:fb P w D ι ys us) (hv:eL ts xs ys=some b):(Op.equal t (.agg vs) (.agg us)).run P w=.ok b w:=by
 obtain⟨l1,l2⟩:=p9 hv
 have q:=qv (w:=w) 4 fs.toList 0 ts vK 9998 (by omega) xs ys vs us b hx hy (by simpa[List.take_of_length_le,l1,l2]using hv)
 have K6:P.fieldsOf t=fs:=by simp[Program.fieldsOf,qb]
 unfold Op.equal
 rw[show Op.maxDepth=9999+1 from rfl,run_equalIn_struct w 9999 t _ _ (by rw[K6];exact qb) dL,K6,q]
theorem qt {cs:List AV} {v:Value} (h:da P w D ι (.agg cs) v):∃vs,v=.agg vs/\fb P w D ι cs vs:=by
 obtain⟨vs,f,rfl,n1,_,f1,r1⟩:=iw h
 exact⟨vs,rfl,n1,fun j a ha=>⟨f j,f1 j (List.getElem?_eq_some_iff.1 ha).1,r1 j a ha⟩⟩
theorem zB {t:TypeId} {fs:Array Field} {ts:List TS} {xs:List AV} {vs:Array Value} (qb:P.underlying t=some (.struct fs)) (dL:P.stoodInHeld t=false) (vK:ew P 4 0 fs.toList=some ts) (hx:fb P w D ι xs vs):∀(rows:List (List AV)) (es:List MapEntry) (i:Nat) (r:Option Nat),es.length=rows.length->
  (∀(j:Nat) (cs:List AV),rows[j]? =some cs->∃e:MapEntry,es[j]? =some e/\da P w D ι (.agg (cs.take ts.length)) e.key)->fI ⟨true,ts⟩ xs rows i=some r->∃res,(Instr.findAsking t (.agg vs) es i).run P w=.ok res w/\Found es i r res
 |[],[],i,r,_,_,h=>by
  simp[fI]at h;subst h
  exact⟨none,by simp[Instr.findAsking],.inl ⟨rfl,rfl⟩⟩
 |[],e::es,i,r,hl,_,h=>by simp at hl
 |cs::rows,[],i,r,hl,_,h=>by simp at hl
 |cs::rows,e::es,i,r,hl,hr,h=>by
  obtain⟨e',xQ,gK⟩:=hr 0 cs rfl
  simp at xQ;subst xQ
  obtain⟨us,hk,hy⟩:=qt gK
  unfold fI at h
  simp only[MK.ks]at h
  split at h
  ·rename_i hq
   simp at h;subst h
   have q:=oQ qb dL vK hx hy hq
   exact⟨some (i,e.val),by simp[Instr.findAsking,hk,q],.inr ⟨0,e,rfl,rfl,rfl⟩⟩
  ·rename_i hq
   have q:=oQ qb dL vK hx hy hq
   obtain⟨res,h1,h2⟩:=zB qb dL vK hx rows es (i+1) r (by simpa using hl) (fun j cs hj=>hr (j+1) cs (by simpa using hj)) h
   exact⟨res,by simp[Instr.findAsking,hk,q,h1],tM h2⟩
  ·cases h
theorem tD {a:AV} (h:a.isAgg=false):a.cells=[a]:=by cases a<;>simp_all [AV.isAgg,AV.cells]
theorem tL {k:TypeId} {m:MK} {B:sr} {r:Row} (hk:Dk P k m) {key:AV} {u:Value} (hr:da P w D ι key u) {es:Array MapEntry} (eW:es.size=r.rows.length)
  (hM:∀(i:Nat) (cs:List AV),r.rows[i]? =some cs->∃(e:MapEntry) (kv vv:AV),es[i]? =some e/\part m.ka m.ks cs=some kv/\cs[m.ks]? =some vv/\da P w D ι kv e.key/\da P w D ι vv e.val) {fi:Option Nat} (h:fC m key r.rows=some fi):
  (∀em,(Instr.checkKey em 10000 k u).run P w=.ok () w)/\∃res,(Instr.findKey k u es.toList).run P w=.ok res w/\Found es.toList 0 fi res:=by
 unfold fC at h
 split at h
 ·rename_i hc
  obtain⟨c1,c2,c3⟩:=hc
  refine⟨fun em=>CU hk em key u c1 c2 hr,?_⟩
  rcases hk with⟨s,rfl,hs⟩|⟨fs,ts,rfl,qb,vK,dL,dy⟩
  ·rw[tD c1]at h
   have hd:∃d,P.underlying k=some d:=by
    cases s with
    |tB=>exact⟨_,oa hs⟩
    |tS=>exact⟨_,od hs⟩
    |tI=>obtain⟨q,hq⟩:=oc hs;exact⟨_,hq⟩
   obtain⟨d,hd⟩:=hd
   obtain⟨res,h1,h2⟩:=zC hs hd hr r.rows es.toList 0 fi (by simpa using eW) (fun j cs hj=>by
    obtain⟨e,kv,vv,q1,q2,_,q4,_⟩:=hM j cs hj
    exact⟨e,kv,by simpa using q1,by simpa[part]using q2,q4⟩) h
   exact⟨res,by simp[Instr.findKey,run_underlying hd,h1],h2⟩
  ·cases key<;>simp[AV.isAgg]at c1
   rename_i cs
   obtain⟨vs,rfl,hL⟩:=qt hr
   obtain⟨res,h1,h2⟩:=zB qb dL vK hL r.rows es.toList 0 fi (by simpa using eW) (fun j cs hj=>by
    obtain⟨e,kv,vv,q1,q2,_,q4,_⟩:=hM j cs hj
    unfold part at q2
    simp only[if_true]at q2
    split at q2
    ·simp only[Option.some.injEq]at q2;subst q2
     exact⟨e,by simpa using q1,q4⟩
    ·cases q2) h
   exact⟨res,(run_findKey_eq w (by simp[qb]) _ _).trans h1,h2⟩
 ·cases h
section
variable {g:Rows} {hs:Nat} {env:Env} {a:Act} {o:Oper} {id:Id} {v:AV}
theorem yf {m:MK} {x:AV} {u:Value} {p:Id×Row} (S:fW P hs D ι g w) (hr:da P w D ι x u) (h:dG g m x=some p):∃B,u=.map (some B.b)/\g p.1=some p.2/\ι p.1=some B/\B.k=some (.map m)/\KV P w D ι B m p.2:=by
 unfold dG at h
 split at h
 ·rename_i i m'
  split at h
  ·rename_i hm
   subst hm
   simp only[Option.map_eq_some_iff]at h
   obtain⟨r,hg,rfl⟩:=h
   obtain⟨B,rfl,hB,hk⟩:=Eb hr
   obtain⟨B',dK,R,_⟩:=S.row i r hg
   rw[hB]at dK;injection dK with dK;subst dK
   exact⟨B,rfl,hg,hB,hk,(R.map _ hk).2⟩
  ·cases h
 ·cases h
theorem NG {t:TypeId} {x k:Operand} {ok:Bool} {m:MK} {z:K} {x' k':O} {mr:Option Row} (S:fW P hs D ι g w) (E:bV P w D ι env a) (ho:o.op=.lookup t x k ok) (hc:qV P t=some (m,z)) (hx:cO P x=some x') (hk:cO P k=some k')
  (hv:bj (.look m ok z) [cV env x',cV env k'] g id=some (v,mr)):mr=none/\ni P a o w D ι v:=by
 obtain⟨kt,e,i,zv,ht,hi,tY,QU,hK⟩:=pU hc
 simp only[bj,Option.bind_eq_some_iff,Option.map_eq_some_iff,Prod.mk.injEq]at hv
 obtain⟨p,hp,fi,DQ,y,hy,rfl,rfl⟩:=hv
 obtain⟨B,hu,hg,hB,sV,es,clock,hb,eW,hlen,hM⟩:=yf S (db E hx) hp
 obtain⟨I1,res,hf,hF⟩:=tL (B:=B) hK (db E hk) eW hM DQ
 have key:∃val,(match res with|some (_,v)=>(v,true)|none=>(zv,false))=(val,fi.isSome)/\da P w D ι y val:=by
  rcases hF with⟨rfl,rfl⟩|⟨j,en,rfl,he,rfl⟩
  ·simp only[dO,Option.some.injEq]at hy;subst hy
   refine⟨zv,rfl,?_⟩
   rw[xX QU];exact uE z
  ·simp only[dO,Option.bind_eq_some_iff,Nat.zero_add]at hy
   obtain⟨cs,dp,hy⟩:=hy
   obtain⟨e',kv,vv,q1,_,q3,_,q5⟩:=hM _ cs dp
   rw[hy]at q3;injection q3 with q3;subst q3
   have:e'=en:=by
    have h1:es.toList[j]? =some e':=by simpa using q1
    rw[he]at h1;injection h1 with h1;exact h1.symm
   subst this
   exact⟨_,rfl,q5⟩
 obtain⟨val,qg,kY⟩:=key
 have gi:(getObj B.b).run P w=.ok (.map es clock) w:=MapKept.run_getObj_map hb
 have hz:(zeroValue e).run P w=.ok zv w:=by simp[zeroValue,typeInfo,hi,tY]
 refine⟨rfl,if ok then .tuple #[val,.bool fi.isSome]else val,?_,?_⟩
 ·simp only[execOp,ho,hu,Instr.lookup,Sem.run_bind,run_underlying ht,Result.andThen_ok,gi,Sem.run_pure,I1,hf]
  rcases hF with⟨rfl,rfl⟩|⟨j,en,rfl,he,rfl⟩
  ·simp only[Prod.mk.injEq]at qg
   simp[hz,qg.1]
  ·simp only[Prod.mk.injEq]at qg
   simp[qg.1]
 ·cases ok with
  |false=>exact kY
  |true=>
   refine .im _ _ (fun j=>if j=0 then val else .bool fi.isSome) rfl (fun j hj=>?_) (fun j b hj=>?_)
   ·have:j=0∨j=1:=by simp at hj;omega
    rcases this with rfl|rfl<;>rfl
   ·match j,hj with
    |0,hj=>simp at hj;subst hj;exact kY
    |1,hj=>simp at hj;subst hj;exact .eO _ _ (.bool _)
    |j+2,hj=>simp at hj
theorem NJ {t:TypeId} {x:Operand} {m:MK} {z:K} {x':O} {mr:Option Row} (S:fW P hs D ι g w) (E:bV P w D ι env a) (ho:o.op=.call {callee:=.builtin .len,args:= #[x],argTypes:= #[t]}) (hc:qV P t=some (m,z)) (hx:cO P x=some x')
  (hv:bj (.len m) [cV env x'] g id=some (v,mr)):mr=none/\ni P a o w D ι v:=by
 obtain⟨kt,e,i,zv,ht,hi,tY,QU,hK⟩:=pU hc
 simp only[bj,Option.map_eq_some_iff,Prod.mk.injEq]at hv
 obtain⟨p,hp,rfl,rfl⟩:=hv
 obtain⟨B,hu,hg,hB,sV,es,clock,hb,eW,hlen,hM⟩:=yf S (db E hx) hp
 have gi:(getObj B.b).run P w=.ok (.map es clock) w:=MapKept.run_getObj_map hb
 refine⟨rfl,.int .i64 (es.size:Int),?_,by rw[eW];exact .eO _ _ (.int _ _)⟩
 simp only[execOp,ho,resolve,Sem.run_bind,Sem.run_pure,Result.andThen_ok,invoke,builtin,Array.map,hu]
 simp[Builtin.len_,run_underlying ht,goInt,hu,gi]
def MkM (P:Program) (a:Act) (o:Oper) (w:World) (id:Id) (v:AV) (r:Row):Prop:=
 ∃m,(execOp a.eval o).run P w=.ok (.value (.map (some w.heap.size))) (w.alloc (.map #[] 0))/\v=.map id m/\r=⟨true,m.lp,[]⟩
theorem PU {t:TypeId} {m:MK} (ho:o.op=.makeMap t none):MkM P a o w id (.map id m) ⟨true,m.lp,[]⟩:=by
 refine⟨m,?_,rfl,rfl⟩
 simp[execOp,ho,Instr.makeMap,go_sem]
def MkC (P:Program) (a:Act) (o:Oper) (w:World) (id:Id) (v:AV) (r:Row):Prop:=
 ∃n,(execOp a.eval o).run P w=.ok (.value (.chan (some w.heap.size))) (w.alloc (.chan n #[] false 0 0 false))/\v=.sP id/\r=⟨true,pZ+n,[]⟩
theorem M6 {t e:TypeId} {x:Operand} {x':O} {dir:ChanDir} {i:TypeInfo} {n:Nat} (E:bV P w D ι env a) (ho:o.op=.makeChan t x) (ht:P.underlying t=some (.chan dir e)) (hi:P.info? e=some i) (hb:i.bytes<=32768) (hx:cO P x=some x') (hn:cL (cV env x')=some n):MkC P a o w id (.sP id) ⟨true,pZ+n,[]⟩:=by
 refine⟨n,?_,rfl,rfl⟩
 have hr:=db E hx
 unfold cL at hn
 split at hn
 ·rename_i k m hm
  rw[hm]at hr
  split at hn
  ·rename_i hc
   simp only[Option.some.injEq]at hn
   subst hn
   have N1:((m.toNat:Nat):Int)=m:=by omega
   have dJ:(i.bytes:Int)*(m.toNat:Nat)<=281474976710544:=by
    have h1:i.bytes*m.toNat<=32768*1048576:=Nat.mul_le_mul hb (by omega)
    have h2:((i.bytes*m.toNat:Nat):Int)<=281474976710544:=by omega
    rwa [Int.natCast_mul]at h2
   have h:=Conc.run_makeChan (P:=P) (w:=w) ht hi k m.toNat (by omega) dJ
   rw[N1]at h
   simp only[execOp,ho,dc hr,Sem.run_bind,h,Result.andThen_ok,Sem.run_pure]
  ·cases hn
 ·cases hn
theorem xC {x:AV} {u:Value} {i:Id} {r:Row} (S:fW P hs D ι g w) (hr:da P w D ι x u) (hx:x=.sP i) (hg:g i=some r):∃B c,u=.chan (some B.b)/\ι i=some B/\B.k=some (.chan c)/\r.sz=pZ+c/\Gu P w D ι B c r:=by
 subst hx
 obtain⟨B,c,rfl,hB,hk⟩:=Ku hr
 obtain⟨B',dK,R,_⟩:=S.row i r hg
 rw[hB]at dK;injection dK with dK;subst dK
 exact⟨B,c,rfl,hB,hk,R.chan c hk⟩
theorem NC {t e:TypeId} {dir:ChanDir} {x:Operand} {x':O} (S:fW P hs D ι g w) (E:bV P w D ι env a) (ho:o.op=.call {callee:=.builtin .len,args:= #[x],argTypes:= #[t]}) (ht:P.underlying t=some (.chan dir e)) (hx:cO P x=some x') (hv:cJ g (cV env x')=some v):ni P a o w D ι v:=by
 have hr:=db E hx
 unfold cJ at hv
 split at hv
 ·rename_i i he
  simp only[Option.map_eq_some_iff]at hv
  obtain⟨r,hg,rfl⟩:=hv
  obtain⟨B,c,hu,hB,hk,eW,buf,s,q,hb,I0,_⟩:=xC S hr he hg
  have gi:(getObj B.b).run P w=.ok (.chan c buf false s q false) w:=by simp[getObj,Sem.run,hb]
  refine⟨.int .i64 (buf.size:Int),?_,by rw[I0];exact .eO _ _ (.int _ _)⟩
  simp only[execOp,ho,resolve,Sem.run_bind,Sem.run_pure,Result.andThen_ok,invoke,builtin,Array.map,hu]
  simp[Builtin.len_,run_underlying ht,goInt,hu,gi]
 ·cases hv
end
end Go.Proofs.YtgoljkjaameagaaGreat.V

namespace Go.Proofs.YtgoljkjaameagaaGreat.V
open Go.RowKit
variable {P:Program} {w w':World} {D D':Nat->Prop} {ι ι':Names}
def Jf (P:Program) (a:Act) (o:Oper) (w:World) (D:Nat->Prop) (ι:Names) (id:Id) (v:AV):Option Row->Prop
 |none=>ni P a o w D ι v
 |some r=>Mk P a o w D ι id v r∨MkM P a o w id v r∨MkC P a o w id v r
section
variable {g:Rows} {hs:Nat} {env:Env} {a:Act} {o:Oper} {id:Id} {v:AV}
theorem kT {x:Option AV} {mr:Option Row} (h:x.map (·,(none:Option Row))=some (v,mr)) (H:x=some v->ni P a o w D ι v):Jf P a o w D ι id v mr:=by
 cases x with
 |none=>simp at h
 |some y=>simp at h;obtain⟨rfl,rfl⟩:=h;exact H rfl
theorem P5 {neg:Bool} {t yt:TypeId} {x y:Operand} {vo:fU} {mr:Option Row} (ho:o.op=.binOp (if neg then .neq else .eql) t x y yt) (hc:qU P neg t x y=some vo) (hq:eD vo (cV env) g id=some (v,mr)) (E:bV P w D ι env a):Jf P a o w D ι id v mr:=by
 unfold qU at hc
 split at hc
 ·split at hc
  ·rename_i e ht
   simp only[Option.map_eq_some_iff]at hc
   obtain⟨x',hx,rfl⟩:=hc
   simp only[eD,dV,Bool.false_eq_true,if_false,Option.map_eq_some_iff,Prod.mk.injEq]at hq
   obtain⟨b,hb,rfl,rfl⟩:=hq
   exact Ny E ho ht hx hb
  ·simp at hc
 ·split at hc
  ·rename_i ht
   simp only[Option.map_eq_some_iff]at hc
   obtain⟨x',hx,rfl⟩:=hc
   simp only[eD,dV,if_true,Option.map_eq_some_iff,Prod.mk.injEq]at hq
   obtain⟨b,hb,rfl,rfl⟩:=hq
   exact Nx E ho ht hx hb
  ·simp at hc
 ·split at hc
  ·rename_i ht
   simp only[Option.map_eq_some_iff]at hc
   obtain⟨x',hx,rfl⟩:=hc
   simp only[eD,Option.map_eq_some_iff,Prod.mk.injEq]at hq
   obtain⟨b,hb,rfl,rfl⟩:=hq
   exact Qj E ho ht hx hb
  ·simp at hc
 ·split at hc
  ·rename_i s hs
   simp only[Option.bind_eq_bind,Option.bind_eq_some_iff,Option.pure_def,Option.some.injEq]at hc
   obtain⟨x',hx,y',hy,rfl⟩:=hc
   simp only[eD,Option.map_eq_some_iff,Prod.mk.injEq]at hq
   obtain⟨b,hb,rfl,rfl⟩:=hq
   have zV:eZ P t=some s:=by
    unfold RD at hs
    split at hs
    ·rename_i s' h;simp at hs;subst hs;exact h
    ·split at hs
     ·split at hs
      ·simp at hs
      ·simp at hs
     ·simp at hs
   exact Qk E ho zV hx hy hb
  ·rename_i ts hs
   simp only[Option.bind_eq_bind,Option.bind_eq_some_iff,Option.pure_def,Option.some.injEq]at hc
   obtain⟨x',hx,y',hy,rfl⟩:=hc
   simp only[eD]at hq
   split at hq
   ·rename_i xs ys h1 h2
    simp only[Option.map_eq_some_iff,Prod.mk.injEq]at hq
    obtain⟨b,hb,rfl,rfl⟩:=hq
    unfold RD at hs
    split at hs
    ·simp at hs
    ·split at hs
     ·rename_i fs qb
      split at hs
      ·rename_i hg
       simp only[Option.map_eq_some_iff,Ro.ag.injEq]at hs
       obtain⟨Jc,vK,rfl⟩:=hs
       simp only[Bool.and_eq_true,Bool.not_eq_true']at hg
       exact Qi E ho qb hg.1 hg.2 vK hx hy h1 h2 hb
      ·simp at hs
     ·simp at hs
   ·simp at hq
  ·simp at hc
theorem Na {c:Call} {vo:fU} {mr:Option Row} (ho:o.op=.call c) (hc:mv P c=some vo) (hq:eD vo (cV env) g id=some (v,mr)) (S:fW P hs D ι g w) (E:bV P w D ι env a):Jf P a o w D ι id v mr:=by
 unfold mv at hc
 split at hc
 ·rename_i jZ
  split at hc
  ·rename_i x t h1 h2
   have hce:c={callee:=.builtin .len,args:= #[x],argTypes:= #[t]}:=by
    obtain⟨a,b,c⟩:=c
    simp only at h1 h2 jZ
    subst jZ
    congr
    ·exact Array.ext' h1
    ·exact Array.ext' h2
   rw[hce]at ho
   split at hc
   ·rename_i e ht
    simp only[Option.map_eq_some_iff]at hc
    obtain⟨x',hx,rfl⟩:=hc
    simp only[eD,Option.map_eq_some_iff,Prod.mk.injEq]at hq
    obtain⟨n,hn,rfl,rfl⟩:=hq
    exact Ql E ho ht hx hn
   ·rename_i ht
    simp only[Option.map_eq_some_iff]at hc
    obtain⟨x',hx,rfl⟩:=hc
    exact kT hq fun h=>ND E ho ht hx h
   ·split at hc
    ·rename_i m z x' hm hx
     simp only[Option.some.injEq]at hc
     subst hc
     obtain⟨rfl,h⟩:=NJ (id:=id) S E ho hm hx hq
     exact h
    ·cases hc
   ·rename_i ht
    simp only[Option.map_eq_some_iff]at hc
    obtain⟨x',hx,rfl⟩:=hc
    exact kT hq fun h=>NC S E ho ht hx h
   ·simp at hc
  ·simp at hc
 ·split at hc
  ·split at hc
   ·split at hc
    ·split at hc
     ·simp only[Option.bind_eq_bind,Option.bind_eq_some_iff,Option.pure_def,Option.some.injEq]at hc
      obtain⟨x',hx,y',hy,rfl⟩:=hc
      simp[eD]at hq
     ·simp at hc
    ·simp at hc
   ·simp at hc
  ·simp at hc
 ·split at hc
  ·split at hc
   ·split at hc
    ·simp only[Option.map_eq_some_iff]at hc
     obtain⟨x',hx,rfl⟩:=hc
     simp[eD]at hq
    ·simp at hc
   ·simp at hc
  ·simp at hc
 ·split at hc
  ·simp only[Option.map_eq_some_iff]at hc
   obtain⟨x',hx,rfl⟩:=hc
   simp[eD]at hq
  ·simp at hc
 ·simp only[Option.map_eq_some_iff]at hc
  obtain⟨x',hx,rfl⟩:=hc
  simp[eD]at hq
 ·split at hc
  ·split at hc
   ·simp only[Option.some.injEq]at hc
    subst hc
    simp[eD]at hq
   ·cases hc
  ·cases hc
 ·split at hc
  ·split at hc
   ·split at hc
    ·simp only[Option.bind_eq_bind,Option.bind_eq_some_iff,Option.pure_def,Option.some.injEq]at hc
     obtain⟨x',hx,y',hy,rfl⟩:=hc
     simp[eD]at hq
    ·simp at hc
   ·simp at hc
  ·simp at hc
 ·simp at hc
theorem xd {vo:fU} {mr:Option Row} (hc:pJ P o.op=some vo) (hq:eD vo (cV env) g id=some (v,mr)) (S:fW P hs D ι g w) (E:bV P w D ι env a):Jf P a o w D ι id v mr:=by
 unfold pJ at hc
 split at hc
 ·rename_i ho
  simp only[Option.map_eq_some_iff]at hc
  obtain⟨x',hx,rfl⟩:=hc
  simp[eD]at hq;obtain⟨rfl,rfl⟩:=hq
  exact Lw E (.inl ho) hx
 ·rename_i ho
  simp only[Option.map_eq_some_iff]at hc
  obtain⟨x',hx,rfl⟩:=hc
  simp[eD]at hq;obtain⟨rfl,rfl⟩:=hq
  exact Lw E (.inr ho) hx
 ·rename_i ho
  simp only[Option.bind_eq_bind,Option.bind_eq_some_iff,Option.pure_def,Option.some.injEq]at hc
  obtain⟨c',h1,x',h2,y',h3,rfl⟩:=hc
  exact kT hq fun h=>NK E ho h1 h2 h3 h
 ·rename_i ho
  simp only[Option.map_eq_some_iff]at hc
  obtain⟨z,hz,rfl⟩:=hc
  simp only[eD,Option.some.injEq,Prod.mk.injEq]at hq
  obtain⟨rfl,rfl⟩:=hq
  exact .inl (PV ho hz)
 ·rename_i ho
  simp only[Option.map_eq_some_iff]at hc
  obtain⟨x',hx,rfl⟩:=hc
  simp only[eD,Option.map_eq_some_iff,Prod.mk.injEq]at hq
  obtain⟨cs,dp,rfl,rfl⟩:=hq
  exact .inl (PT E ho hx dp)
 ·rename_i ho
  simp only[Option.bind_eq_bind,Option.bind_eq_some_iff,Option.pure_def,Option.some.injEq]at hc
  obtain⟨ag,h1,n,h2,x',h3,rfl⟩:=hc
  exact kT hq fun h=>NF S E ho h1 h2 h3 h
 ·rename_i ho
  simp only[Option.bind_eq_bind,Option.bind_eq_some_iff,Option.pure_def,Option.some.injEq]at hc
  obtain⟨n,h2,x',h3,y',h4,rfl⟩:=hc
  simp[eD]at hq
 ·rename_i ho
  simp only[Option.map_eq_some_iff]at hc
  obtain⟨x',hx,rfl⟩:=hc
  exact kT hq fun h=>Qh E ho hx h
 ·rename_i op t x y yt ho
  unfold tt at hc
  split at hc
  ·exact P5 (neg:=false) ho hc hq E
  ·exact P5 (neg:=true) ho hc hq E
  ·simp only[Option.bind_eq_bind,Option.bind_eq_some_iff,Option.pure_def,Option.some.injEq]at hc
   obtain⟨x',h3,y',h4,rfl⟩:=hc
   exact kT hq fun h=>Qo (left:=true) E ho h3 h4 h
  ·simp only[Option.bind_eq_bind,Option.bind_eq_some_iff,Option.pure_def,Option.some.injEq]at hc
   obtain⟨x',h3,y',h4,rfl⟩:=hc
   exact kT hq fun h=>Qo (left:=false) E ho h3 h4 h
  ·rename_i n1 n2 n3 n4
   split at hc
   ·simp only[Option.bind_eq_bind,Option.bind_eq_some_iff,Option.pure_def,Option.some.injEq]at hc
    obtain⟨x',h3,y',h4,rfl⟩:=hc
    exact kT hq fun h=>Qg E ho n1 n2 h3 h4 h
   ·simp only[Option.bind_eq_bind,Option.bind_eq_some_iff,Option.pure_def,Option.some.injEq]at hc
    obtain⟨x',h3,y',h4,rfl⟩:=hc
    exact kT hq fun h=>Nv E ho n1 n2 h3 h4 h
   ·simp at hc
 ·rename_i ho
  simp only[Option.map_eq_some_iff]at hc
  obtain⟨x',hx,rfl⟩:=hc
  exact kT hq fun h=>Qn E ho hx h
 ·rename_i ho
  simp only[Option.map_eq_some_iff]at hc
  obtain⟨x',hx,rfl⟩:=hc
  exact kT hq fun h=>Qm E ho hx h
 ·rename_i ho
  split at hc
  ·rename_i q k h1 h2
   simp only[Option.map_eq_some_iff]at hc
   obtain⟨x',hx,rfl⟩:=hc
   exact kT hq fun h=>Nw E ho h1 h2 hx h
  ·rename_i h1 h2
   simp only[Option.map_eq_some_iff]at hc
   obtain⟨x',hx,rfl⟩:=hc
   exact kT hq fun h=>by
    have hr:=db E hx
    unfold bJ at h
    split at h
    ·rename_i s hb
     simp at h;subst h
     rw[hb]at hr
     exact⟨.string s,by simp only[execOp,ho,fm hr,convert,Sem.run_bind,run_underlying h1,run_underlying h2,Result.andThen_ok,Sem.run_pure],.eO _ _ (.str _)⟩
    ·simp at h
  ·simp at hc
 ·rename_i ho
  split at hc
  ·rename_i e ht
   simp only[Option.bind_eq_bind,Option.bind_eq_some_iff,Option.pure_def,Option.some.injEq]at hc
   obtain⟨n,h1,x',h2,lo,h3,hi,h4,rfl⟩:=hc
   exact kT hq fun h=>KR S E ho ht h1 h2 h3 h4 h
  ·rename_i ht
   simp only[Option.bind_eq_bind,Option.bind_eq_some_iff,Option.pure_def,Option.some.injEq]at hc
   obtain⟨x',h2,lo,h3,hi,h4,rfl⟩:=hc
   exact kT hq fun h=>IV E ho ht h2 h3 h4 h
  ·simp at hc
 ·rename_i ho
  split at hc
  ·rename_i fs qb
   split at hc
   ·rename_i f hf
    split at hc
    ·rename_i m hm
     simp only[Option.map_eq_some_iff]at hc
     obtain⟨x',hx,rfl⟩:=hc
     exact kT hq fun h=>KO E ho qb hf hm hx h
    ·simp at hc
   ·simp at hc
  ·simp at hc
 ·rename_i ho
  split at hc
  ·rename_i fs qb
   split at hc
   ·rename_i f hf
    simp only[Option.bind_eq_bind,Option.bind_eq_some_iff,Option.pure_def,Option.some.injEq]at hc
    obtain⟨ag,h1,n,h2,x',h3,rfl⟩:=hc
    exact kT hq fun h=>KP E ho qb hf h1 h2 h3 h
   ·simp at hc
  ·simp at hc
 ·rename_i ho
  split at hc
  ·rename_i e ht
   split at hc
   ·rename_i m hm
    simp only[Option.bind_eq_bind,Option.bind_eq_some_iff,Option.pure_def,Option.some.injEq]at hc
    obtain⟨x',h1,i',h2,rfl⟩:=hc
    exact kT hq fun h=>KQ S E ho ht hm h1 h2 h
   ·simp at hc
  ·rename_i len e ht
   split at hc
   ·rename_i m hm
    simp only[Option.bind_eq_bind,Option.bind_eq_some_iff,Option.pure_def,Option.some.injEq]at hc
    obtain⟨x',h1,i',h2,rfl⟩:=hc
    exact kT hq fun h=>Nz E ho ht hm h1 h2 h
   ·simp at hc
  ·simp at hc
 ·rename_i ho
  split at hc
  ·rename_i ht
   simp only[Option.bind_eq_bind,Option.bind_eq_some_iff,Option.pure_def,Option.some.injEq]at hc
   obtain⟨x',h1,i',h2,rfl⟩:=hc
   exact kT hq fun h=>NB E ho ht h1 h2 h
  ·rename_i len e ht
   simp only[Option.bind_eq_bind,Option.bind_eq_some_iff,Option.pure_def,Option.some.injEq]at hc
   obtain⟨ag,h0,n,h1,x',h2,i',h3,rfl⟩:=hc
   exact kT hq fun h=>NA E ho ht h0 h1 h2 h3 h
  ·simp at hc
 ·rename_i ho
  simp only[Option.map_eq_some_iff]at hc
  obtain⟨x',hx,rfl⟩:=hc
  exact kT hq fun h=>Gb E ho hx h
 ·rename_i ho
  split at hc
  ·rename_i fs qb
   split at hc
   ·rename_i z l hz hl
    split at hc
    ·rename_i dy
     simp only[Option.map_eq_some_iff]at hc
     obtain⟨q,Gi,rfl⟩:=hc
     simp only[eD,Option.map_eq_some_iff,Prod.mk.injEq]at hq
     obtain⟨cs,dp,rfl,rfl⟩:=hq
     exact KN E ho qb hz hl (fun f hf=>by
      rw[Array.all_eq_true_iff_forall_mem]at dy
      exact dy f (Array.mem_toList_iff.1 hf)) Gi dp
    ·simp at hc
   ·simp at hc
  ·rename_i len e ht
   split at hc
   ·rename_i z l n hz hl hn
    simp only[Option.some.injEq]at hc
    subst hc
    simp only[eD,Option.map_eq_some_iff,Prod.mk.injEq]at hq
    obtain⟨cs,dp,rfl,rfl⟩:=hq
    exact IU E ho ht hz hl hn dp
   ·simp at hc
  ·simp at hc
 ·rename_i ho
  split at hc
  ·rename_i e ht
   split at hc
   ·rename_i sz z l h1 h2 h3
    split at hc
    ·rename_i hh
     simp only[Option.some.injEq]at hc
     subst hc
     simp only[eD,Option.map_eq_some_iff,Prod.mk.injEq]at hq
     obtain⟨rs,wO,rfl,rfl⟩:=hq
     exact .inl (HS E ho ht h1 h2 h3 hh.1 hh.2 (by rw[List.map_map]at wO;exact wO))
    ·simp at hc
   ·simp at hc
  ·simp at hc
 ·rename_i ho
  split at hc
  ·rename_i hh
   simp only[Option.map_eq_some_iff]at hc
   obtain⟨l,hl,rfl⟩:=hc
   simp[eD]at hq;obtain⟨rfl,rfl⟩:=hq
   exact NH E ho hh.1 hh.2 hl
  ·split at hc
   ·rename_i hh
    simp only[Option.map_eq_some_iff]at hc
    obtain⟨l,hl,rfl⟩:=hc
    simp[eD]at hq;obtain⟨rfl,rfl⟩:=hq
    exact NI E ho hh.1 hh.2 hl
   ·simp at hc
 ·rename_i ho
  split at hc
  ·rename_i e ht
   split at hc
   ·rename_i m z i h1 h2 h3
    split at hc
    ·rename_i hb
     simp only[Option.bind_eq_bind,Option.bind_eq_some_iff,Option.pure_def,Option.some.injEq]at hc
     obtain⟨l',h4,c',h5,rfl⟩:=hc
     simp only[eD,Option.map_eq_some_iff,Prod.mk.injEq]at hq
     obtain⟨⟨n,r⟩,hr,rfl,rfl⟩:=hq
     exact .inl (Fy E ho ht h1 h2 h3 hb h4 h5 hr)
    ·simp at hc
   ·simp at hc
  ·simp at hc
 ·rename_i ho
  exact Na ho hc hq S E
 ·rename_i ho
  split at hc
  ·rename_i dir e ht
   split at hc
   ·rename_i i hi
    split at hc
    ·rename_i hb
     simp only[Option.map_eq_some_iff]at hc
     obtain⟨x',hx,rfl⟩:=hc
     simp only[eD,Option.map_eq_some_iff,Prod.mk.injEq]at hq
     obtain⟨n,hn,rfl,rfl⟩:=hq
     exact .inr (.inr (M6 E ho ht hi hb hx hn))
    ·cases hc
   ·cases hc
  ·cases hc
 ·simp only[Option.bind_eq_bind,Option.bind_eq_some_iff,Option.pure_def,Option.some.injEq]at hc
  obtain⟨x',_,y',_,rfl⟩:=hc
  simp[eD]at hq
 ·split at hc
  ·split at hc
   ·simp only[Option.map_eq_some_iff]at hc
    obtain⟨x',_,rfl⟩:=hc
    simp[eD]at hq
   ·cases hc
  ·cases hc
 ·rename_i ho
  split at hc
  ·rename_i m z hm
   simp only[Option.some.injEq]at hc
   subst hc
   simp only[eD,List.map_nil,bj,Option.some.injEq,Prod.mk.injEq]at hq
   obtain⟨rfl,rfl⟩:=hq
   exact .inr (.inl (PU ho))
  ·cases hc
 ·rename_i ho
  split at hc
  ·rename_i m z x' k' hm hx hk
   simp only[Option.some.injEq]at hc
   subst hc
   obtain⟨rfl,h⟩:=NG (id:=id) S E ho hm hx hk hq
   exact h
  ·cases hc
 ·split at hc
  ·simp only[Option.some.injEq]at hc
   subst hc
   simp[eD]at hq
  ·cases hc
 ·split at hc
  ·simp only[Option.some.injEq]at hc
   subst hc
   simp[eD]at hq
  ·cases hc
 ·simp only[Option.some.injEq]at hc
  subst hc
  simp[eD]at hq
 ·simp only[Option.some.injEq]at hc
  subst hc
  simp[eD]at hq
 ·simp at hc
end
end Go.Proofs.YtgoljkjaameagaaGreat.V

namespace Go.Proofs.YtgoljkjaameagaaGreat.V
open Go.RowKit
variable {P:Program} {w w':World} {D D':Nat->Prop} {ι ι':Names}
def jT (ι:Names) (id:Id) (B:sr):Names:=fun i=>if i=id then some B else ι i
theorem ek (ι:Names) (id:Id) (B:sr):jT ι id B id=some B:=if_pos rfl
theorem fD {ι:Names} {id:Id} {B:sr} (h:ι id=none):∀i B',ι i=some B'->jT ι id B i=some B':=fun i B' hi=>by
 have:i≠id:=by rintro rfl;rw[h]at hi;cases hi
 rw[jT,if_neg this];exact hi
theorem fP {ι:Names} {id i:Id} {B:sr} (h:i≠id):jT ι id B i=ι i:=if_neg h
section
variable {g:Rows} {hs:Nat} {env:Env} {a:Act} {o:Oper} {id:Id} {v:AV}
theorem kc.frame {B:sr} {r:Row} (h:kc P w D ι B r) (hb:w'.heap[B.b]? =w.heap[B.b]?) (hr:∀a v,da P w D ι a v->da P w' D' ι' a v):kc P w' D' ι' B r:=
 ⟨h.sz,by obtain⟨c,T,h1,h2⟩:=h.xw;exact⟨c,T,hb.trans h1,h2⟩,h.fits,h.len,h.flat,fun i j cs a hi hj=>by
  obtain⟨v,h1,h2⟩:=h.at_ i j cs a hi hj
  exact⟨v,(World.cell?_of_block (a:=⟨B.b,i*r.sz+j,none⟩) hb).trans h1,hr _ _ h2⟩⟩
theorem iQ.frame {B:sr} {r:Row} (h:iQ P w D ι B r) (hb:w'.heap[B.b]? =w.heap[B.b]?) (hr:∀a v,da P w D ι a v->da P w' D' ι' a v):iQ P w' D' ι' B r:=
 ⟨h.sz,h.flat,fun hk=>(h.row hk).frame hb hr,fun m hm=>by
  obtain⟨h1,es,c,h2,h3,h5,h4⟩:=h.map m hm
  refine⟨h1,es,c,hb.trans h2,h3,h5,fun i cs hi=>?_⟩
  obtain⟨e,kv,vv,q1,q2,q3,q4,q5⟩:=h4 i cs hi
  exact⟨e,kv,vv,q1,q2,q3,hr _ _ q4,hr _ _ q5⟩,fun c hc=>by
  obtain⟨h1,buf,s,q,h2,h3,h4⟩:=h.chan c hc
  refine⟨h1,buf,s,q,hb.trans h2,h3,fun i cs hi=>?_⟩
  obtain⟨a,u,q1,q2,q3⟩:=h4 i cs hi
  exact⟨a,u,q1,q2,hr _ _ q3⟩⟩
theorem fW.kill (S:fW P hs D ι g w) (i:Id):fW P hs D ι (bR g i) w:=by
 refine⟨S.lo,S.dead,fun id r h=>?_,fun id kJ r r' B B' h h' hw hB dK hb=>?_⟩
 ·unfold bR at h;split at h
  ·cases h
  ·exact S.row id r h
 ·unfold bR at h h'
  split at h
  ·cases h
  ·split at h'
   ·cases h'
   ·exact S.inj id kJ r r' B B' h h' hw hB dK hb
theorem fW.sub {g':Rows} (S:fW P hs D ι g w) (h:∀id r,g' id=some r->g id=some r):fW P hs D ι g' w:=
 ⟨S.lo,S.dead,fun id r hr=>S.row id r (h id r hr),fun id kJ r r' B B' h1 h2=>S.inj id kJ r r' B B' (h _ _ h1) (h _ _ h2)⟩
theorem yL {hid:List Nat} {n:Nat} {g:Rows}:∀id r,fG hid n g id=some r->g id=some r:=fun id r h=>by
 cases hid with
 |nil=>exact h
 |cons a l=>
  have e:fG (a::l) n g id=if (a::l).contains id.site=true/\id.bt=n then none else g id:=rfl
  rw[e]at h
  by_cases hc:(a::l).contains id.site=true/\id.bt=n
  ·rw[if_pos hc]at h;cases h
  ·rw[if_neg hc]at h;exact h
theorem fW.stay (S:fW P hs D ι g w) (hb:∀b,b<w.heap.size->w'.heap[b]? =w.heap[b]?) (hz:w.heap.size<=w'.heap.size) (hD:∀b,D b->D' b) (hD':∀b,D' b->b<w'.heap.size) (ki:∀b,D' b->D b∨w.heap.size<=b) (hι:∀id B,ι id=some B->ι' id=some B):fW P hs D' ι' g w':=by
 have hr:∀a v,da P w D ι a v->da P w' D' ι' a v:=fun a v h=>h.frame (fun b hd=>hb b (S.dead b hd)) hD hι
 have lt:∀{id r B},g id=some r->ι id=some B->B.b<w.heap.size:=fun {id r B} h hB=>by
  obtain⟨B',dK,R,_⟩:=S.row id r h
  rw[hB]at dK;injection dK with dK;subst dK
  exact R.lt
 refine⟨Nat.le_trans S.lo hz,hD',fun id r h=>?_,fun id kJ r r' B B' h h' hw hB dK he=>?_⟩
 ·obtain⟨B,hB,R,h1,h2⟩:=S.row id r h
  exact⟨B,hι _ _ hB,R.frame (hb _ (lt h hB)) hr,h1,fun hw hd=>by
   rcases ki _ hd with hd|hd
   ·exact h2 hw hd
   ·have:=lt h hB;omega⟩
 ·obtain⟨C,hC,_⟩:=S.row id r h
  obtain⟨C',B4,_⟩:=S.row kJ r' h'
  have e1:=hι _ _ hC
  have e2:=hι _ _ B4
  rw[hB]at e1;injection e1 with e1;subst e1
  rw[dK]at e2;injection e2 with e2;subst e2
  exact S.inj id kJ r r' _ _ h h' hw hC B4 he
theorem Step.stay (S:fW P hs D ι g w) (hb:∀b,b<w.heap.size->w'.heap[b]? =w.heap[b]?) (hz:w.heap.size<=w'.heap.size) (e1:w'.os=w.os) (e2:w'.tape=w.tape) (e3:w'.output=w.output) (hD:∀b,D b->D' b) (ki:∀b,D' b->D b∨w.heap.size<=b) (hι:∀id B,ι id=some B->ι' id=some B):Step hs D ι w D' ι' w':=
 ⟨⟨e1,e2,e3,hz,fun k hk=>hb k (Nat.lt_of_lt_of_le hk S.lo)⟩,fun b hd=>hb b (S.dead b hd),hD,hι,fun b h=>(ki b h).imp_right (Nat.le_trans S.lo)⟩
theorem fW.alloc (S:fW P hs D ι g w) {cells:Array Value} {T:TypeId} {r:Row} (hh:w'.heap=w.heap.push (.cells cells T (0,0))) (hn:ι id=none) (hw:r.w=true) (h1:r.rows.length*r.sz<=cells.size) (h2:∀cs∈r.rows,cs.length=r.sz) (h3:∀cs∈r.rows,∀a∈cs,a.cell=true)
  (h4:∀i j cs a,r.rows[i]? =some cs->cs[j]? =some a->∃x,cells[i*r.sz+j]? =some x/\da P w D ι a x):fW P hs D (jT ι id ⟨w.heap.size,r.sz,cells.size,none⟩) (bK g id r) w':=by
 have hb:∀b,b<w.heap.size->w'.heap[b]? =w.heap[b]? :=fun b dJ=>by rw[hh,Array.getElem?_push,if_neg (by omega)]
 have hz:w.heap.size<=w'.heap.size:=by rw[hh];simp
 have S':=S.stay (D':=D) (ι':=jT ι id ⟨w.heap.size,r.sz,cells.size,none⟩) hb hz (fun _ h=>h) (fun b hd=>Nat.lt_of_lt_of_le (S.dead b hd) hz) (fun _ h=>.inl h) (fD hn)
 have hr:∀a v,da P w D ι a v->da P w' D (jT ι id ⟨w.heap.size,r.sz,cells.size,none⟩) a v:=fun a v h=>h.frame (fun b hd=>hb b (S.dead b hd)) (fun _ h=>h) (fD hn)
 have ki:w'.heap[w.heap.size]? =some (.cells cells T (0,0)):=by rw[hh];simp
 have gone:g id=none:=by
  cases hg:g id with
  |none=>rfl
  |some q=>
   obtain⟨B,hB,_⟩:=S.row id q hg
   rw[hn]at hB;cases hB
 have lt:∀{i q B},g i=some q->ι i=some B->B.b<w.heap.size:=fun {i q B} h hB=>by
  obtain⟨B',dK,R,_⟩:=S.row i q h
  rw[hB]at dK;injection dK with dK;subst dK
  exact R.lt
 refine⟨S'.lo,S'.dead,fun i q h=>?_,fun i i' q q' B B' h h' Px hB dK he=>?_⟩
 ·unfold bK at h
  split at h
  ·rename_i e
   subst e
   injection h with h;subst h
   refine⟨_,ek _ _ _,kc.obj ⟨rfl,⟨cells,T,ki,rfl⟩,h1,h2,h3,fun k j cs a hk hj=>?_⟩ rfl,fun _=>S.lo,fun _ hd=>?_⟩
   ·obtain⟨x,hx,hrx⟩:=h4 k j cs a hk hj
    exact⟨x,by simp[World.cell?,ki,hx],hr _ _ hrx⟩
   ·have:=S.dead _ hd;simp at this
  ·exact S'.row i q h
 ·unfold bK at h h'
  split at h
  ·rename_i e
   split at h'
   ·rename_i e';exact e.trans e'.symm
   ·exfalso
    rename_i e'
    subst e
    rw[ek]at hB;injection hB with hB;subst hB
    rw[fP e']at dK
    have:=lt h' dK
    simp at he;omega
  ·rename_i e
   split at h'
   ·exfalso
    rename_i e'
    subst e'
    rw[ek]at dK;injection dK with dK;subst dK
    rw[fP e]at hB
    have:=lt h hB
    simp at he;omega
   ·exact S'.inj i i' q q' B B' h h' Px hB dK he
theorem fW.put (S:fW P hs D ι g w) {r r':Row} {B:sr} {cur cur':Array Value} {T:TypeId} (hid:g id=some r) (hw:r.w=true) (hB:ι id=some B) (hblk:w.heap[B.b]? =some (.cells cur T (0,0))) (eW:cur'.size=cur.size)
  (h0:r'.w=true) (h1:r'.sz=r.sz) (h2:r'.rows.length*r'.sz<=B.C) (h3:∀cs∈r'.rows,cs.length=r'.sz) (h4:∀cs∈r'.rows,∀a∈cs,a.cell=true)
  (h5:∀i j cs a,r'.rows[i]? =some cs->cs[j]? =some a->∃v,cur'[i*r.sz+j]? =some v/\da P w D ι a v):fW P hs D ι (bK g id r') (w.setRow B.b cur')/\Step hs D ι w D ι (w.setRow B.b cur'):=by
 obtain⟨B0,uY,RO,jW,nB⟩:=S.row id r hid
 rw[hB]at uY;injection uY with uY;subst uY
 have u7:=RO.Kh hblk
 have R:=RO.row u7
 have hd:∀b,D b->(w.setRow B.b cur').heap[b]? =w.heap[b]? :=fun b hb=>setRow_other w B.b b cur' (by rintro rfl;exact nB hw hb)
 have hr:∀a v,da P w D ι a v->da P (w.setRow B.b cur') D ι a v:=fun a v h=>h.frame hd (fun _ h=>h) (fun _ _ h=>h)
 have hC:cur.size=B.C:=by
  obtain⟨c,T',h1,h2⟩:=R.xw
  rw[hblk]at h1;injection h1 with h1;injection h1 with h1 ON;subst h1;exact h2
 refine⟨⟨by simpa using S.lo,fun b hb=>by simpa using S.dead b hb,fun i q h=>?_,fun i i' q q' C C' h h' Px hC B4 he=>?_⟩,⟨⟨by simp,by simp,by simp,by simp,fun k hk=>setRow_other w B.b k cur' (by have:=jW hw;omega)⟩,hd,fun _ h=>h,fun _ _ h=>h,fun _ h=>.inl h⟩⟩
 ·unfold bK at h
  split at h
  ·rename_i e
   subst e
   injection h with h;subst h
   refine⟨B,hB,kc.obj ⟨by rw[h1];exact R.sz,⟨cur',T,setRow_heap w B.b cur cur' T _ hblk,by rw[eW];exact hC⟩,h2,h3,h4,fun k j cs a hk hj=>?_⟩ u7,fun _=>jW hw,fun _=>nB hw⟩
   obtain⟨v,hv,kY⟩:=h5 k j cs a hk hj
   exact⟨v,by rw[cell_setRow_same w B.b _ cur cur' T _ hblk,h1];exact hv,hr _ _ kY⟩
  ·rename_i e
   obtain⟨C,hC,RC,k1,k2⟩:=S.row i q h
   refine⟨C,hC,RC.frame (setRow_other w B.b C.b cur' (fun OZ=>e ?_)) hr,k1,k2⟩
   exact(S.inj id i r q B C hid h hw hB hC OZ.symm).symm
 ·unfold bK at h h'
  have get:∀j p,(if j=id then some r' else g j)=some p->∃p0,g j=some p0/\(p.w=true->p0.w=true):=fun j p hp=>by
   split at hp
   ·rename_i e;subst e;injection hp with hp;subst hp;exact⟨r,hid,fun _=>hw⟩
   ·exact⟨p,hp,fun h=>h⟩
  obtain⟨p,hp,N6⟩:=get _ _ h
  obtain⟨p',MD,_⟩:=get _ _ h'
  exact S.inj i i' p p' C C' hp MD (N6 Px) hC B4 he
theorem fW.rename (S:fW P hs D ι g w) {i:Id} {r:Row} {B:sr} (hi:g i=some r) (hw:r.w=true) (hB:ι i=some B) (hn:ι id=none):fW P hs D (jT ι id B) (bK (bR g i) id r) w:=by
 have S':=S.stay (w':=w) (D':=D) (ι':=jT ι id B) (fun _ _=>rfl) (Nat.le_refl _) (fun _ h=>h) S.dead (fun _ h=>.inl h) (fD hn)
 have gM:i≠id:=by rintro rfl;rw[hn]at hB;cases hB
 obtain⟨B1,DK,R,k1,k2⟩:=S'.row i r hi
 rw[fP gM,hB]at DK;injection DK with DK;subst DK
 have get:∀j p,bK (bR g i) id r j=some p->(j=id/\p=r)∨(j≠id/\j≠i/\g j=some p):=fun j p hp=>by
  unfold bK bR at hp
  split at hp
  ·rename_i e;injection hp with hp;exact .inl ⟨e,hp.symm⟩
  ·rename_i e
   split at hp
   ·cases hp
   ·rename_i e';exact .inr ⟨e,e',hp⟩
 refine⟨S.lo,S.dead,fun j p h=>?_,fun j j' p p' C C' h h' N6 hC B4 he=>?_⟩
 ·rcases get j p h with⟨rfl,rfl⟩|⟨_,_,hp⟩
  ·exact⟨B,ek _ _ _,R,k1,k2⟩
  ·exact S'.row j p hp
 ·rcases get j p h with⟨rfl,rfl⟩|⟨q1,q2,hp⟩
  ·rcases get j' p' h' with⟨rfl,rfl⟩|⟨q1',q2',MD⟩
   ·rfl
   ·exfalso
    rw[ek]at hC;injection hC with hC;subst hC
    rw[fP q1']at B4
    exact q2' (S.inj i j' p p' B C' hi MD hw hB B4 he).symm
  ·rcases get j' p' h' with⟨rfl,rfl⟩|⟨q1',q2',MD⟩
   ·exfalso
    rw[ek]at B4;injection B4 with B4;subst B4
    rw[fP q1]at hC
    exact q2 (S.inj j i p p' C B hp hi N6 hC hB he)
   ·rw[fP q1]at hC
    rw[fP q1']at B4
    exact S.inj j j' p p' C C' hp MD N6 hC B4 he
def Bi (P:Program) (hs:Nat) (a:Act) (o:Oper) (w:World) (D:Nat->Prop) (ι:Names) (id:Id) (v:AV) (g':Rows):Prop:=
 ∃u w' ι',((execOp a.eval o).run P w=.ok (.value u) w'∨(execOp a.eval o).run P w=.ok .skip w'/\u=undef)/\Step hs D ι w D ι' w'/\fW P hs D ι' g' w'/\da P w' D ι' v u/\∀i,i≠id->ι' i=ι i
theorem AG {xs:List AV} {vs:Array Value} (h:fb P w D ι xs vs) (hf:∀a∈xs,a.cell=true):∀v∈vs.toList,v.oneCell'=true:=by
 intro v hv
 obtain⟨j,hj,rfl⟩:=List.getElem_of_mem hv
 have I2:j<xs.length:=by rw[<-h.1];simpa using hj
 obtain⟨u,hu,hr⟩:=h.2 j _ (List.getElem?_eq_getElem I2)
 have hc:=hr.zr (hf _ (List.getElem_mem I2))
 have:vs.toList[j]=u:=by
  have:vs.toList[j]? =some u:=by simpa using hu
  rw[List.getElem?_eq_getElem hj]at this;injection this
 rw[this]
 cases u<;>simp_all [Value.oneCell']
theorem js {i j n m:Nat} (h:i<n) (hj:j<m):i*m+j<n*m:=by
 have:(i+1)*m<=n*m:=Nat.mul_le_mul_right _ h
 rw[Nat.add_mul,Nat.one_mul]at this;omega
theorem kc.cur {B:sr} {r:Row} (R:kc P w D ι B r):∃cur T,w.heap[B.b]? =some (.cells cur T (0,0))/\cur.size=B.C/\∀i j cs a,r.rows[i]? =some cs->cs[j]? =some a->∃v,cur[i*r.sz+j]? =some v/\da P w D ι a v:=by
 obtain⟨cur,T,h1,h2⟩:=R.xw
 refine⟨cur,T,h1,h2,fun i j cs a hi hj=>?_⟩
 obtain⟨v,hv,hr⟩:=R.at_ i j cs a hi hj
 exact⟨v,by simpa[World.cell?,h1]using hv,hr⟩
theorem Jt {t:TypeId} {n:Nat} {x y:Operand} {x' y':O} {g':Rows} (S:fW P hs D ι g w) (E:bV P w D ι env a) (ho:o.op=.store t x y) (hn:ec P t=some n) (hx:cO P x=some x') (hy:cO P y=some y')
  (hv:bG g n (cV env y') (cV env x')=some g'):Bi P hs a o w D ι id .undef g':=by
 have rx:=db E hx
 have ry:=db E hy
 unfold bG at hv
 split at hv
 ·rename_i i k off hp
  rw[hp]at rx
  simp only[Option.bind_eq_some_iff]at hv
  obtain⟨r,hg,cs,dp,hv⟩:=hv
  split at hv
  ·rename_i hc
   obtain⟨c1,c2,c3,c4⟩:=hc
   simp at hv;subst hv
   obtain⟨B,he,hB,hk⟩:=iz rx
   obtain⟨B',dK,R,jW,nB⟩:=S.row i r hg
   rw[hB]at dK;injection dK with dK;subst dK
   replace R:=R.row hk
   obtain⟨cur,T,hblk,hC,tR⟩:=R.cur
   have hL:=pH ry c3
   have h1:=AG hL (List.all_eq_true.1 c3)
   have JW:(a.eval y).cells.size=n:=by rw[hL.1,c2]
   have jy:=(List.getElem?_eq_some_iff.1 dp).1
   have hlen:=R.len cs (List.mem_of_getElem? dp)
   have hbound:k*r.sz+r.sz<=r.rows.length*r.sz:=by
    have:(k+1)*r.sz<=r.rows.length*r.sz:=Nat.mul_le_mul_right _ jy
    rwa [Nat.add_mul,Nat.one_mul]at this
   have hf:=R.fits
   have dL:=run_storeCells_at P B.b (k*B.sz+off) T (a.eval y).cells.toList 0 cur w hblk (by rw[R.sz];simp only[Array.length_toList];omega) h1
   simp only[Nat.add_zero,Array.length_toList]at dL
   have qd:=S.put (r':={r with rows:=r.rows.set k (cz cs off (cV env y').cells)}) hg c1 hB hblk (cur':=(cur.toList.take (k*B.sz+off)++(a.eval y).cells.toList++cur.toList.drop (k*B.sz+off+(a.eval y).cells.size)).toArray)
    (by rw[R.sz];simp;omega) c1 rfl (by simpa using R.fits) (fun c O2=>by
     rcases List.mem_or_eq_of_mem_set O2 with h|rfl
     ·exact R.len c h
     ·simp[cz];omega) (fun c O2 b hb=>by
     rcases List.mem_or_eq_of_mem_set O2 with h|rfl
     ·exact R.flat c h b hb
     ·unfold cz at hb
      rcases List.mem_append.1 hb with hb|hb
      ·rcases List.mem_append.1 hb with hb|hb
       ·exact R.flat cs (List.mem_of_getElem? dp) b (List.mem_of_mem_take hb)
       ·exact List.all_eq_true.1 c3 b hb
      ·exact R.flat cs (List.mem_of_getElem? dp) b (List.mem_of_mem_drop hb)) (fun i2 j c b wI hj=>by
     rw[R.sz]
     simp only[List.getElem?_toArray]
     by_cases wJ:i2=k
     ·subst wJ
      rw[List.getElem?_set_self jy]at wI
      injection wI with wI;subst wI
      unfold cz at hj
      by_cases hjo:j<off
      ·rw[List.append_assoc,List.getElem?_append_left (by simp;omega),List.getElem?_take,if_pos hjo]at hj
       rw[List.append_assoc,List.getElem?_append_left (by simp;omega),List.getElem?_take,if_pos (by omega)]
       simpa using tR _ _ _ _ dp hj
      ·by_cases ll:j<off+n
       ·rw[List.append_assoc,List.getElem?_append_right (by simp;omega),List.getElem?_append_left (by simp;omega)]at hj
        rw[List.append_assoc,List.getElem?_append_right (by simp;omega),List.getElem?_append_left (by simp;omega)]
        simp only[List.length_take]at hj ⊢
        rw[show j-min off cs.length=j-off by omega]at hj
        rw[show i2*r.sz+j-min (i2*r.sz+off) cur.toList.length=j-off by simp;omega]
        simpa using hL.2 _ _ hj
       ·rw[List.getElem?_append_right (by simp;omega)]at hj
        rw[List.getElem?_append_right (by simp;omega)]
        simp only[List.length_append,List.length_take,List.getElem?_drop,Array.length_toList]at hj ⊢
        rw[show off+(cV env y').cells.length+(j-(min off cs.length+(cV env y').cells.length))=j by omega]at hj
        rw[show i2*r.sz+off+(a.eval y).cells.size+(i2*r.sz+j-(min (i2*r.sz+off) cur.size+(a.eval y).cells.size))=i2*r.sz+j by omega]
        simpa using tR _ _ _ _ dp hj
     ·rw[List.getElem?_set_ne (fun e=>wJ e.symm)]at wI
      have hi2l:=(List.getElem?_eq_some_iff.1 wI).1
      have gq:j<r.sz:=by rw[<-R.len c (List.mem_of_getElem? wI)];exact(List.getElem?_eq_some_iff.1 hj).1
      have:=tR _ _ _ _ wI hj
      rcases Nat.lt_or_gt_of_ne wJ with dJ|yX
      ·have h2:i2*r.sz+j<k*r.sz:=js dJ gq
       rw[List.append_assoc,List.getElem?_append_left (by simp;omega),List.getElem?_take,if_pos (by omega)]
       simpa using this
      ·have h2:k*r.sz+r.sz<=i2*r.sz:=by
        have:(k+1)*r.sz<=i2*r.sz:=Nat.mul_le_mul_right _ yX
        rwa [Nat.add_mul,Nat.one_mul]at this
       rw[List.getElem?_append_right (by simp;omega)]
       simp only[List.length_append,List.length_take,List.getElem?_drop,Array.length_toList]
       rw[show k*r.sz+off+(a.eval y).cells.size+(i2*r.sz+j-(min (k*r.sz+off) cur.size+(a.eval y).cells.size))=i2*r.sz+j by omega]
       simpa using this)
   refine⟨undef,_,ι,.inr ⟨?_,rfl⟩,qd.2,qd.1,da.undef,fun _ _=>rfl⟩
   simp only[execOp,ho,he,Instr.storeAt,Instr.sureAddr,storeVar,Sem.run_bind,Sem.run_pure,Result.andThen_ok,run_sizeOf hn,JW,ne_eq,not_true_eq_false,if_false,dL]
  ·simp at hv
 ·simp at hv
end
end Go.Proofs.YtgoljkjaameagaaGreat.V

namespace Go.Proofs.YtgoljkjaameagaaGreat.V
open Go.RowKit
variable {P:Program} {w w':World} {D D':Nat->Prop} {ι ι':Names}
section
variable {g:Rows} {hs:Nat} {env:Env} {a:Act} {o:Oper} {id:Id} {v:AV}
theorem qu (S:fW P hs D ι g w) {y:AV} {u:Value} {ys:List (List AV)} {sz:Nat} (hr:da P w D ι y u) (hy:bd g y=some ys) (hl:∀c∈ys,c.length=sz) (hf:∀c∈ys,∀b∈c,b.cell=true):
  ∃A c,u=.slice A ys.length c/\(ys=[]∨∃b o,∃news:List Value,A=some ⟨b,o,none⟩/\news.length=ys.length*sz/\(∀j v,news[j]? =some v->w.cell? ⟨b,o+j,none⟩=some v)/\fb P w D ι ys.flatten news.toArray/\∀v∈news,v.oneCell'=true):=by
 have fin:∀b o,ys≠[]->(∀i j cs x,ys[i]? =some cs->cs[j]? =some x->∃v,w.cell? ⟨b,o+(i*sz+j),none⟩=some v/\da P w D ι x v)->
   ∃news:List Value,news.length=ys.length*sz/\(∀j v,news[j]? =some v->w.cell? ⟨b,o+j,none⟩=some v)/\fb P w D ι ys.flatten news.toArray/\∀v∈news,v.oneCell'=true:=by
  intro b o _ h
  have hlen:=Hc hl
  have at_:∀k,k<ys.length*sz->∃x,ys.flatten[k]? =some x/\∃v,w.cell? ⟨b,o+k,none⟩=some v/\da P w D ι x v:=by
   intro k hk
   have kO:0<sz:=by
    rcases Nat.eq_zero_or_pos sz with h0|h0
    ·subst h0;simp at hk
    ·exact h0
   have hi:k / sz<ys.length:=Nat.div_lt_of_lt_mul (by rw[Nat.mul_comm];exact hk)
   have hj:k % sz<sz:=Nat.mod_lt _ kO
   have dp:=List.getElem?_eq_getElem hi
   have gq:k % sz<ys[k / sz].length:=by rw[hl _ (List.getElem_mem hi)];exact hj
   have hx:=List.getElem?_eq_getElem gq
   have e:k / sz*sz+k % sz=k:=by rw[Nat.mul_comm];exact Nat.div_add_mod _ _
   refine⟨_,by rw[<-flat_get hl dp hx,e],?_⟩
   obtain⟨v,hv,kY⟩:=h _ _ _ _ dp hx
   rw[e]at hv
   exact⟨v,hv,kY⟩
  let news:=(List.range (ys.length*sz)).map fun k=>(w.cell? ⟨b,o+k,none⟩).getD undef
  have hn:∀k,k<ys.length*sz->∀v,w.cell? ⟨b,o+k,none⟩=some v->news[k]? =some v:=fun k hk v hv=>by
   simp only[news,List.getElem?_map,List.getElem?_range hk,Option.map_some,hv,Option.getD_some]
  have hR:fb P w D ι ys.flatten news.toArray:=⟨by simp[news,hlen],fun j x hx=>by
   have gq:=(List.getElem?_eq_some_iff.1 hx).1
   rw[hlen]at gq
   obtain⟨x',sa,v,hv,kY⟩:=at_ j gq
   rw[hx]at sa;injection sa with sa;subst sa
   exact⟨v,by simpa using hn j gq v hv,kY⟩⟩
  refine⟨news,by simp[news],fun j v hj=>?_,hR,?_⟩
  ·have gq:j<ys.length*sz:=by have:=(List.getElem?_eq_some_iff.1 hj).1;simpa[news]using this
   obtain⟨x,_,v',mO,_⟩:=at_ j gq
   rw[hn j gq v' mO]at hj
   injection hj with hj
   rw[<-hj];exact mO
  ·have:=AG hR (fun x hx=>by
    obtain⟨c,hc,Ta⟩:=List.mem_flatten.1 hx
    exact hf c hc x Ta)
   simpa using this
 unfold bd at hy
 split at hy
 ·simp at hy;subst hy
  exact⟨none,0,iu hr,.inl rfl⟩
 ·rename_i rows
  simp at hy;subst hy
  obtain⟨A,c,he,_,_,h3⟩:=uG hr
  refine⟨A,c,he,?_⟩
  rcases h3 with h3|⟨b,oo,sz',vs,rfl,hD,I4,_,hc,hi⟩
  ·exact .inl h3
  ·by_cases h0:rows=[]
   ·exact .inl h0
   ·have zV:sz'=sz:=by
     cases rows with
     |nil=>exact(h0 rfl).elim
     |cons c r=>rw[<-I4 c (by simp),hl c (by simp)]
    subst zV
    obtain⟨news,q1,q2,q3,q4⟩:=fin b oo h0 (fun i j cs x dp hx=>⟨_,hc i j (List.getElem?_eq_some_iff.1 dp).1 (by rw[<-I4 cs (List.mem_of_getElem? dp)];exact(List.getElem?_eq_some_iff.1 hx).1),.eO _ _ (hi i j cs x dp hx)⟩)
    exact .inr ⟨b,oo,news,rfl,q1,q2,q3,q4⟩
 ·rename_i i off len
  simp only[Option.bind_eq_some_iff]at hy
  obtain⟨r,hg,hy⟩:=hy
  split at hy
  ·rename_i hle
   simp at hy;subst hy
   obtain⟨oo,cap,B,he,hB,h1,h2,h3,h4,hk⟩:=iy hr
   obtain⟨B',dK,R,_,_⟩:=S.row i r hg
   rw[hB]at dK;injection dK with dK;subst dK
   replace R:=R.row hk
   have hlen:((r.rows.drop off).take len).length=len:=by simp;omega
   refine⟨some ⟨B.b,oo,none⟩,cap,by rw[hlen];exact he,?_⟩
   by_cases h0:(r.rows.drop off).take len=[]
   ·exact .inl h0
   ·have zV:r.sz=sz:=by
     cases hq:(r.rows.drop off).take len with
     |nil=>exact(h0 hq).elim
     |cons c q=>
      have hm:c∈(r.rows.drop off).take len:=by rw[hq];simp
      rw[<-hl c hm,R.len c (List.mem_of_mem_drop (List.mem_of_mem_take hm))]
    have hlp:0<len:=by rw[<-hlen];exact List.length_pos_iff.2 h0
    have A7:oo=off*B.sz:=by rcases h2 with h2|h2<;>omega
    obtain⟨news,q1,q2,q3,q4⟩:=fin B.b oo h0 (fun i2 j cs x dp hx=>by
     rw[List.getElem?_take]at dp
     split at dp
     ·rw[List.getElem?_drop]at dp
      obtain⟨v,hv,kY⟩:=R.at_ _ _ _ _ dp hx
      refine⟨v,?_,kY⟩
      rw[A7,R.sz,<-zV]
      rw[Nat.add_mul]at hv
      rw[<-Nat.add_assoc]
      exact hv
     ·simp at dp)
    exact .inr ⟨B.b,oo,news,rfl,q1,q2,q3,q4⟩
  ·simp at hy
 ·simp at hy
theorem nL {t ty e:TypeId} {i:TypeInfo} (ht:P.underlying t=some (.slice e)) (hi:P.info? e=some i) (A:Option Addr) (n c:Nat) (hn:n<=c) (B:Option Addr) (d:Nat):
  (Builtin.append_ #[t,t] ty #[.slice A n c,.slice B 0 d]).run P w=.ok (.slice A n c) w:=by
 have hf:(Builtin.firstCells i.size 0 (.slice B 0 d)).run P w=.ok #[] w:=by
  cases B<;>simp[Builtin.firstCells,loadCells,loadCellsFrom]
 cases A with
 |none=>simp[Builtin.append_,run_underlying ht,sizeOf,typeInfo,hi,Builtin.lenOf,hn,hf]
 |some A=>simp[Builtin.append_,run_underlying ht,sizeOf,typeInfo,hi,Builtin.lenOf,hn,hf,storeCells]
theorem vR {t ty e T:TypeId} {i:TypeInfo} (ht:P.underlying t=some (.slice e)) (hi:P.info? e=some i) (b qx CV:Nat) (cur:Array Value) (hg:w.heap[b]? =some (.cells cur T (0,0)))
  (x:Addr) (m c:Nat) (news:List Value) (hl:news.length=m*i.size) (Pq:∀j u,news[j]? =some u->w.cell? (x.add j)=some u) (h1:∀u∈news,u.oneCell'=true)
  (fS:qx+m<=CV) (rj:qx*i.size+news.length<=cur.size):
  (Builtin.append_ #[t,t] ty #[.slice (some ⟨b,0,none⟩) qx CV,.slice (some x) m c]).run P w=
   .ok (.slice (some ⟨b,0,none⟩) (qx+m) CV) (w.setRow b (cur.toList.take (qx*i.size)++news++cur.toList.drop (qx*i.size+news.length)).toArray):=by
 have hf:=run_firstCells_some (P:=P) w i.size m x m c news hl Pq
 have dL:=run_storeCells_at P b (qx*i.size) T news 0 cur w hg (by simpa using rj) h1
 simp only[Nat.add_zero]at dL
 simp[Builtin.append_,run_underlying ht,sizeOf,typeInfo,hi,Builtin.lenOf,fS,hf,jN,dL]
theorem zK (w:World) (FA FE:Nat) (e:TypeId) (h:FA<=dv):FA<=grownCap w FA FE e/\grownCap w FA FE e<=maxLen:=by
 unfold dv at h
 simp only[grownCap,Question.cut,maxLen]
 have:=Nat.mod_lt (w.tape w.drawn (.appendCap FA FE e)) (show 0<2 ^ 63-FA by omega)
 omega
theorem fJ {x y:Operand} {t:TypeId} {u:Value} (ho:o.op=.call {callee:=.builtin .append,args:= #[x,y],argTypes:= #[t,t]}) (h:(Builtin.append_ #[t,t] o.type #[a.eval x,a.eval y]).run P w=.ok u w'):(execOp a.eval o).run P w=.ok (.value u) w':=by
 simp only[execOp,ho,resolve,Sem.run_bind,Sem.run_pure,Result.andThen_ok,invoke,builtin]
 simp only[List.map_toArray,List.map_cons,List.map_nil]
 rw[h];rfl
theorem AL {T:TypeId} (S:fW P hs D ι g w) (cells:Array Value) (hn:ι id=none) (B:sr):Step hs D ι w D (jT ι id B) (w.drew.alloc (.cells cells T)):=
 Step.stay S (fun k hk=>by show(w.heap.push _)[k]? = _;rw[Array.getElem?_push,if_neg (by omega)]) (by show _<=(w.heap.push _).size;simp) rfl rfl rfl (fun _ h=>h) (fun _ h=>.inl h) (fD hn)
theorem G1 {x y:Operand} {x' y':O} {t e:TypeId} {m:Nat} {z:List K} {i:TypeInfo} {ys:List (List AV)} {g':Rows} (S:fW P hs D ι g w) (E:bV P w D ι env a) (hn:ι id=none) (ho:o.op=.call {callee:=.builtin .append,args:= #[x,y],argTypes:= #[t,t]})
  (ht:P.underlying t=some (.slice e)) (eW:ec P e=some (m+1)) (hz:jj P e=some z) (hi:P.info? e=some i) (hby:i.bytes<=32768) (hx:cO P x=some x') (hy:cO P y=some y') (Bg:bd g (cV env y')=some ys)
  (hv:aP g id (m+1) (cV env x') ys=some (v,g')):Bi P hs a o w D ι id v g':=by
 have rx:=db E hx
 have ry:=db E hy
 obtain⟨it,zv,pK,tY,Of,hm,DV⟩:=jw hz
 rw[hi]at pK;injection pK with pK;subst pK
 have jg:i.size=m+1:=by simpa[ec,hi]using eW
 have fits:∀n,n<=dv->n*i.bytes<=140737488355328:=fun n h=>by
  unfold dv at h
  have:=Nat.mul_le_mul h hby
  omega
 have e63:∀n,n<=dv->(n:Int)<=9223372036854775807:=fun n h=>by unfold dv at h;omega
 have same:∀(w1:World) (cells:Array Value),w1=w.drew.alloc (.cells cells e)->w1.heap=w.heap.push (.cells cells e (0,0)):=fun w1 cells h=>by subst h;rfl
 have Ov:∀l:List (List AV),(l.all fun c=>c.length==m+1&&c.all AV.cell)=true->(∀c∈l,c.length=m+1)/\∀c∈l,∀b∈c,b.cell=true:=fun l h=>by
  rw[List.all_eq_true]at h
  refine⟨fun c hc=>?_,fun c hc b hb=>?_⟩
  ·have:=h c hc;simp at this;exact this.1
  ·have:=h c hc;simp at this;exact this.2 b hb
 unfold aP at hv
 split at hv
 ·rename_i hb
  rw[hb]at rx
  have ex:=iu rx
  split at hv
  ·simp at hv
   obtain⟨rfl,rfl⟩:=hv
   obtain⟨A,c,ey,_⟩:=qu (sz:=m+1) S ry Bg (fun c h=>by cases h) (fun c h=>by cases h)
   refine⟨_,w,ι,.inl (fJ ho (by rw[ex,ey];exact nL ht hi none 0 0 (Nat.le_refl _) A c)),Step.refl _ _ _ _,S,.eO _ _ .cq,fun _ _=>rfl⟩
  ·rename_i y0 yr
   split at hv
   ·rename_i hc
    simp only[Option.some.injEq,Prod.mk.injEq]at hv
    obtain⟨rfl,rfl⟩:=hv
    obtain⟨hl,hf⟩:=Ov _ hc.2
    obtain⟨A,c,ey,h2⟩:=qu (sz:=m+1) S ry Bg hl hf
    rcases h2 with h2|⟨b,oo,news,rfl,q1,q2,q3,q4⟩
    ·cases h2
    have fX:=run_append_nil (P:=P) w t o.type e i zv ht hi tY ⟨b,oo,none⟩ (y0::yr).length c news (by rw[jg];exact q1) (fun j v hj=>by rw[jN];exact q2 j v hj) (by simp) (e63 _ hc.1) (by have:=fits _ hc.1;omega)
    obtain⟨g1,g2⟩:=zK w (y0::yr).length 0 e hc.1
    have dp:(news.toArray++Builtin.zeroCells zv.cells (grownCap w (y0::yr).length 0 e-(y0::yr).length)).size=grownCap w (y0::yr).length 0 e*(m+1):=by
     rw[Array.size_append,size_zeroCells,Of,jg]
     simp only[List.size_toArray,q1]
     rw[<-Nat.add_mul];congr 1;omega
    have S1:=S.alloc (w':=w.drew.alloc (.cells (news.toArray++Builtin.zeroCells zv.cells (grownCap w (y0::yr).length 0 e-(y0::yr).length)) e)) (r:=⟨true,m+1,y0::yr⟩) rfl hn rfl (by rw[dp];exact Nat.mul_le_mul_right _ g1) hl hf
     (fun k j cs b2 hk hj=>by
      obtain⟨u,hu,vJ⟩:=q3.2 _ _ (flat_get hl hk hj)
      refine⟨u,?_,vJ⟩
      have dJ:=(Array.getElem?_eq_some_iff.1 hu).1
      dsimp only
      rw[Array.getElem?_append_left dJ];exact hu)
    have dL:=AL (T:=e) S (news.toArray++Builtin.zeroCells zv.cells (grownCap w (y0::yr).length 0 e-(y0::yr).length)) hn ⟨w.heap.size,m+1,(news.toArray++Builtin.zeroCells zv.cells (grownCap w (y0::yr).length 0 e-(y0::yr).length)).size,none⟩
    refine⟨_,_,_,.inl (fJ ho (by rw[ex,ey];exact fX)),dL,S1,?_,fun _ h=>fP h⟩
    refine .own _ _ _ _ _ _ (ek _ _ _) rfl g1 (.inr (by simp)) ?_ g2
    dsimp only;rw[dp];simp
   ·simp at hv
 ·rename_i i0 len hb
  rw[hb]at rx
  simp only[Option.bind_eq_some_iff]at hv
  obtain⟨r,hg,hv⟩:=hv
  split at hv
  ·rename_i hc
   obtain⟨c1,c2,c3,c4,c5⟩:=hc
   simp only[Option.some.injEq,Prod.mk.injEq]at hv
   obtain⟨rfl,rfl⟩:=hv
   obtain⟨hl,hf⟩:=Ov _ c5
   obtain⟨A,c,ey,h2⟩:=qu (sz:=m+1) S ry Bg hl hf
   obtain⟨oo,cap,B,ex,hB,h1,A7,h3,h4,hk⟩:=iy rx
   obtain⟨B',dK,R,jW,nB⟩:=S.row _ _ hg
   rw[hB]at dK;injection dK with dK;subst dK
   replace R:=R.row hk
   have Hi:B.sz=m+1:=R.sz.trans c2
   have x8:∀cs∈r.rows++ys,cs.length=m+1:=fun cs dp=>by
    rcases List.mem_append.1 dp with h|h
    ·rw[<-c2];exact R.len cs h
    ·exact hl cs h
   have K3:∀cs∈r.rows++ys,∀b∈cs,b.cell=true:=fun cs dp=>by
    rcases List.mem_append.1 dp with h|h
    ·exact R.flat cs h
    ·exact hf cs h
   rcases h2 with rfl|⟨yb,yo,news,rfl,q1,q2,q3,q4⟩
   ·have Fb:=S.rename hg c1 hB hn
    refine⟨_,w,jT ι id B,.inl (fJ ho (by rw[ex,ey];exact nL ht hi _ _ _ h1 A c)),⟨Below.refl _ _,fun _ _=>rfl,fun _ h=>h,fD hn,fun _ h=>.inl h⟩,?_,?_,fun _ h=>fP h⟩
    ·have:(⟨true,m+1,r.rows++[]⟩:Row)=r:=by cases r;simp_all
     rw[this];exact Fb
    ·simp only[List.length_nil,Nat.add_zero]
     exact .own _ _ _ _ _ B (ek _ _ _) hk h1 A7 h3 h4
   ·obtain⟨cur,T,hblk,hC,tR⟩:=R.cur
    by_cases fS:len+ys.length<=cap
    ·have Pu:ys≠[]->oo=0:=fun h=>by
      rcases A7 with A7|A7
      ·have:=List.length_pos_iff.2 h;omega
      ·simpa using A7
     by_cases hy0:ys=[]
     ·subst hy0
      have Fb:=S.rename hg c1 hB hn
      refine⟨_,w,jT ι id B,.inl (fJ ho (by rw[ex,ey];exact nL ht hi _ _ _ h1 _ c)),⟨Below.refl _ _,fun _ _=>rfl,fun _ h=>h,fD hn,fun _ h=>.inl h⟩,?_,?_,fun _ h=>fP h⟩
      ·have:(⟨true,m+1,r.rows++[]⟩:Row)=r:=by cases r;simp_all
       rw[this];exact Fb
      ·simp only[List.length_nil,Nat.add_zero]
       exact .own _ _ _ _ _ B (ek _ _ _) hk h1 A7 h3 h4
     have ho0:=Pu hy0
     subst ho0
     have rj:len*i.size+news.length<=cur.size:=by
      rw[jg,q1,hC,<-Nat.add_mul]
      refine Nat.le_trans ?_ h3
      rw[Hi,Nat.zero_add]
      exact Nat.mul_le_mul_right _ fS
     have fX:=vR (ty:=o.type) ht hi B.b len cap cur hblk ⟨yb,yo,none⟩ ys.length c news (by rw[jg];exact q1) (fun j v hj=>by rw[jN];exact q2 j v hj) q4 fS rj
     have oB:cur.toList.length=cur.size:=Array.length_toList
     simp only[jg]at fX rj
     obtain⟨P1,P2⟩:=S.put (r':=⟨true,m+1,r.rows++ys⟩) hg c1 hB hblk (cur':=(cur.toList.take (len*(m+1))++news++cur.toList.drop (len*(m+1)+news.length)).toArray) (by simp only[List.size_toArray,List.length_append,List.length_take,List.length_drop,oB];omega) rfl c2.symm
      (by dsimp only;rw[List.length_append,<-c3,<-Hi];refine Nat.le_trans (Nat.mul_le_mul_right _ fS) (Nat.le_trans (by simp) h3)) x8 K3 (fun k j cs b2 hk hj=>by
       simp only[List.getElem?_toArray]
       have gq:j<m+1:=by rw[<-x8 cs (List.mem_of_getElem? hk)];exact(List.getElem?_eq_some_iff.1 hj).1
       rw[c2]
       by_cases jy:k<r.rows.length
       ·rw[List.getElem?_append_left jy]at hk
        have h2:k*(m+1)+j<len*(m+1):=js (by omega) gq
        rw[List.append_assoc,List.getElem?_append_left (by simp only[List.length_take,oB];omega),List.getElem?_take,if_pos h2]
        have:=tR k j cs b2 hk hj
        rw[c2]at this;simpa using this
       ·rw[List.getElem?_append_right (by omega)]at hk
        have rl:=(List.getElem?_eq_some_iff.1 hk).1
        have pg:len*(m+1)<=k*(m+1):=Nat.mul_le_mul_right _ (by omega)
        have pk:k*(m+1)+j-len*(m+1)=(k-r.rows.length)*(m+1)+j:=by
         rw[<-c3,Nat.sub_mul];omega
        obtain⟨u,hu,vJ⟩:=q3.2 _ _ (flat_get hl hk hj)
        refine⟨u,?_,vJ⟩
        have DT:news[(k-r.rows.length)*(m+1)+j]? =some u:=by simpa using hu
        have dJ:=(List.getElem?_eq_some_iff.1 DT).1
        rw[List.append_assoc,List.getElem?_append_right (by simp only[List.length_take,oB];omega),List.getElem?_append_left (by simp only[List.length_take,oB];omega)]
        rw[<-DT]
        congr 1
        simp only[List.length_take,oB]
        omega)
     have eQ:bK (bR (bK g i0 ⟨true,m+1,r.rows++ys⟩) i0) id ⟨true,m+1,r.rows++ys⟩=bK (bR g i0) id ⟨true,m+1,r.rows++ys⟩:=by
      funext q;simp only[bK,bR]
      by_cases h:q=id<;>by_cases h':q=i0<;>simp[h,h']
     have Fb:=P1.rename (i:=i0) (id:=id) (r:=⟨true,m+1,r.rows++ys⟩) (by simp[bK]) rfl hB hn
     rw[eQ]at Fb
     refine⟨_,_,_,.inl (fJ ho (by rw[ex,ey];exact fX)),P2.trans ⟨Below.refl _ _,fun _ _=>rfl,fun _ h=>h,fD hn,fun _ h=>.inl h⟩,Fb,?_,fun _ h=>fP h⟩
     exact .own _ _ _ _ _ B (ek _ _ _) hk fS (.inr (by simp)) h3 h4
    ·
     have holds:∃sK:List Value,sK.length=len*(m+1)/\(∀j v,sK[j]? =some v->w.cell? ⟨B.b,oo+j,none⟩=some v)/\fb P w D ι r.rows.flatten sK.toArray:=by
      obtain⟨A2,c2',e2,h2⟩:=qu (sz:=m+1) (u:=.slice (some ⟨B.b,oo,none⟩) len cap) S (.own i0 0 len oo cap B hB hk h1 A7 h3 h4) (ys:=r.rows) (by simp[bd,hg,c3]) (fun cs h=>by rw[<-c2];exact R.len cs h) R.flat
      rcases h2 with h2|⟨b2,o2,sK,rfl,p1,p2,p3,_⟩
      ·refine⟨[],by simp[c3,h2],fun j v h=>by simp at h,by rw[h2];exact⟨rfl,fun j a h=>by simp at h⟩⟩
      ·injection e2 with e2 _ _
       injection e2 with e2
       injection e2 with e21 e22 _
       subst e21;subst e22
       exact⟨sK,by rw[p1,c3],p2,p3⟩
     obtain⟨sK,p1,p2,p3⟩:=holds
     have fX:=run_append_grow (P:=P) w t o.type e i zv ht hi tY ⟨B.b,oo,none⟩ len cap sK (by rw[jg];exact p1) (fun j v hj=>by rw[jN];exact p2 j v hj) ⟨yb,yo,none⟩ ys.length c news (by rw[jg];exact q1) (fun j v hj=>by rw[jN];exact q2 j v hj) (by omega) (e63 _ c4) (growslice_fits (by omega) (fits _ c4))
     obtain⟨g1,g2⟩:=zK w (len+ys.length) cap e c4
     have dp:(sK.toArray++news.toArray++Builtin.zeroCells zv.cells (grownCap w (len+ys.length) cap e-(len+ys.length))).size=grownCap w (len+ys.length) cap e*(m+1):=by
      rw[Array.size_append,Array.size_append,size_zeroCells,Of,jg]
      simp only[List.size_toArray,q1,p1]
      rw[<-Nat.add_mul,<-Nat.add_mul];congr 1;omega
     have S1:=(S.kill i0).alloc (id:=id) (w':=w.drew.alloc (.cells (sK.toArray++news.toArray++Builtin.zeroCells zv.cells (grownCap w (len+ys.length) cap e-(len+ys.length))) e)) (r:=⟨true,m+1,r.rows++ys⟩) rfl hn rfl (by dsimp only;rw[dp,List.length_append,<-c3];exact Nat.mul_le_mul_right _ g1) x8 K3
      (fun k j cs b2 hk hj=>by
       have E7:=flat_get x8 hk hj
       rw[List.flatten_append]at E7
       have hol:sK.length=r.rows.flatten.length:=by have:=p3.1;simpa using this
       dsimp only
       by_cases dJ:k*(m+1)+j<r.rows.flatten.length
       ·rw[List.getElem?_append_left dJ]at E7
        obtain⟨u,hu,vJ⟩:=p3.2 _ _ E7
        refine⟨u,?_,vJ⟩
        rw[Array.getElem?_append_left (by simp;omega),Array.getElem?_append_left (by simp;omega)];exact hu
       ·rw[List.getElem?_append_right (by omega)]at E7
        obtain⟨u,hu,vJ⟩:=q3.2 _ _ E7
        refine⟨u,?_,vJ⟩
        have zP:=(Array.getElem?_eq_some_iff.1 hu).1
        simp only[List.size_toArray]at zP
        rw[Array.getElem?_append_left (by simp;omega),Array.getElem?_append_right (by simp;omega)]
        simp only[List.size_toArray,hol];exact hu)
     have dL:=AL (T:=e) S (sK.toArray++news.toArray++Builtin.zeroCells zv.cells (grownCap w (len+ys.length) cap e-(len+ys.length))) hn ⟨w.heap.size,m+1,(sK.toArray++news.toArray++Builtin.zeroCells zv.cells (grownCap w (len+ys.length) cap e-(len+ys.length))).size,none⟩
     refine⟨_,_,_,.inl (fJ ho (by rw[ex,ey];exact fX)),dL,S1,?_,fun _ h=>fP h⟩
     refine .own _ _ _ _ _ _ (ek _ _ _) rfl g1 (.inr (by simp)) ?_ g2
     dsimp only;rw[dp];simp
  ·simp at hv
 ·simp at hv
theorem kC {x:Operand} {t:TypeId} {u:Value} (ho:o.op=.call {callee:=.builtin .clear,args:= #[x],argTypes:= #[t]}) (h:(Builtin.clear_ #[t] o.type #[a.eval x]).run P w=.ok u w'):(execOp a.eval o).run P w=.ok (.value u) w':=by
 simp only[execOp,ho,resolve,Sem.run_bind,Sem.run_pure,Result.andThen_ok,invoke,builtin]
 simp only[List.map_toArray,List.map_cons,List.map_nil]
 rw[h];rfl
theorem Js {x:Operand} {x':O} {t e:TypeId} {m:Nat} {z:List K} {g':Rows} (S:fW P hs D ι g w) (E:bV P w D ι env a) (ho:o.op=.call {callee:=.builtin .clear,args:= #[x],argTypes:= #[t]})
  (ht:P.underlying t=some (.slice e)) (eW:ec P e=some (m+1)) (hz:jj P e=some z) (hx:cO P x=some x') (hv:bB g z (cV env x')=some g'):Bi P hs a o w D ι id .undef g':=by
 have rx:=db E hx
 obtain⟨it,zv,hi,tY,Of,hm,DV⟩:=jw hz
 have jg:it.size=m+1:=by simpa[ec,hi]using eW
 unfold bB at hv
 split at hv
 ·rename_i hb
  rw[hb]at rx
  simp at hv;subst hv
  refine⟨undef,w,ι,.inl (kC ho (by rw[iu rx];simp only[Builtin.clear_,Sem.run_bind];simp[run_underlying ht,undef])),Step.refl _ _ _ _,S,da.undef,fun _ _=>rfl⟩
 ·rename_i i off len hb
  rw[hb]at rx
  simp only[Option.bind_eq_some_iff]at hv
  obtain⟨r,hg,hv⟩:=hv
  split at hv
  ·rename_i hc
   obtain⟨c1,c2,c3⟩:=hc
   simp only[Option.some.injEq]at hv;subst hv
   obtain⟨oo,cap,B,ex,hB,h1,h2,h3,h4,hk⟩:=iy rx
   obtain⟨B',dK,R,jW,nB⟩:=S.row _ _ hg
   rw[hB]at dK;injection dK with dK;subst dK
   replace R:=R.row hk
   obtain⟨cur,T,hblk,hC,tR⟩:=R.cur
   by_cases h0:len=0
   ·subst h0
    have e1:({r with rows:=r.rows.take off++List.replicate 0 (z.map K.av)++r.rows.drop (off+0)}:Row)=r:=by cases r;simp
    rw[e1]
    have e2:bK g i r=g:=by
     funext q;unfold bK;split
     ·rename_i h;rw[h,hg]
     ·rfl
    rw[e2]
    refine⟨undef,w,ι,.inl (kC ho (by rw[ex];simp only[Builtin.clear_,Sem.run_bind];simp[run_underlying ht,undef])),Step.refl _ _ _ _,S,da.undef,fun _ _=>rfl⟩
   ·have Bd:oo=off*B.sz:=by rcases h2 with h2|h2<;>omega
    have Hi:B.sz=m+1:=by rw[R.sz,c2,DV,jg]
    have wO:r.sz=m+1:=by rw[<-R.sz,Hi]
    have PM:zv.cells.size=m+1:=by rw[Of,jg]
    have vd:(Builtin.zeroCells zv.cells len).toList.length=len*(m+1):=by rw[Array.length_toList,size_zeroCells,PM]
    have PL:∀k,k<len*(m+1)->∃c,z[k % z.length]? =some c/\(Builtin.zeroCells zv.cells len).toList[k]? =some c.val:=fun k hk=>by
     obtain⟨c,oA,B7⟩:=nQ (n:=len*zv.cells.size) hm (by rw[DV,jg];omega) k (by rw[PM];exact hk)
     exact⟨c,oA,by rw[Array.getElem?_toList];exact B7⟩
    have hbound:(off+len)*(m+1)<=r.rows.length*(m+1):=Nat.mul_le_mul_right _ c3
    have zO:=R.fits
    rw[wO]at zO
    have Ss:(off+len)*(m+1)=off*(m+1)+len*(m+1):=Nat.add_mul _ _ _
    have dL:=run_storeCells_at P B.b oo T (Builtin.zeroCells zv.cells len).toList 0 cur w hblk (by rw[vd,hC,Bd,Hi];omega) (by
     intro v hv
     obtain⟨k,hk,rfl⟩:=List.getElem_of_mem hv
     obtain⟨c,_,B7⟩:=PL k (by rw[<-vd];exact hk)
     rw[List.getElem?_eq_getElem hk]at B7
     injection B7 with B7
     rw[B7];cases c<;>rfl)
    simp only[Nat.add_zero]at dL
    have oB:cur.toList.length=cur.size:=Array.length_toList
    obtain⟨P1,P2⟩:=S.put (r':={r with rows:=r.rows.take off++List.replicate len (z.map K.av)++r.rows.drop (off+len)}) hg c1 hB hblk (cur':=(cur.toList.take oo++(Builtin.zeroCells zv.cells len).toList++cur.toList.drop (oo+(Builtin.zeroCells zv.cells len).toList.length)).toArray)
     (by simp only[List.size_toArray,List.length_append,List.length_take,List.length_drop,oB,vd];rw[Bd,Hi];omega) c1 rfl (by
      have:(r.rows.take off++List.replicate len (z.map K.av)++r.rows.drop (off+len)).length=r.rows.length:=by simp;omega
      dsimp only;rw[this];exact R.fits) (fun cs dp=>by
      rcases List.mem_append.1 dp with h|h
      ·rcases List.mem_append.1 h with h|h
       ·exact R.len cs (List.mem_of_mem_take h)
       ·rw[List.eq_of_mem_replicate h];simp[c2]
      ·exact R.len cs (List.mem_of_mem_drop h)) (fun cs dp b hb=>by
      rcases List.mem_append.1 dp with h|h
      ·rcases List.mem_append.1 h with h|h
       ·exact R.flat cs (List.mem_of_mem_take h) b hb
       ·rw[List.eq_of_mem_replicate h]at hb
        obtain⟨c,_,rfl⟩:=List.mem_map.1 hb;exact c.lR
      ·exact R.flat cs (List.mem_of_mem_drop h) b hb) (fun k j cs b hk hj=>by
      simp only[List.getElem?_toArray]
      rw[wO]
      rw[Bd,Hi,vd]
      by_cases ph:k<off
      ·rw[List.append_assoc,List.getElem?_append_left (by simp;omega),List.getElem?_take,if_pos ph]at hk
       have gq:j<m+1:=by rw[<-wO,<-R.len cs (List.mem_of_getElem? hk)];exact(List.getElem?_eq_some_iff.1 hj).1
       have h2:=js ph gq
       rw[List.append_assoc,List.getElem?_append_left (by simp only[List.length_take,oB];omega),List.getElem?_take,if_pos h2]
       have:=tR k j cs b hk hj
       rw[wO]at this;simpa using this
      ·by_cases rl:k<off+len
       ·rw[List.append_assoc,List.getElem?_append_right (by simp;omega),List.getElem?_append_left (by simp;omega)]at hk
        have gK:=List.eq_of_mem_replicate (List.mem_of_getElem? hk)
        subst gK
        simp only[List.getElem?_map,Option.map_eq_some_iff]at hj
        obtain⟨q,hq,rfl⟩:=hj
        have gq:=(List.getElem?_eq_some_iff.1 hq).1
        rw[DV,jg]at gq
        have pg:off*(m+1)<=k*(m+1):=Nat.mul_le_mul_right _ (by omega)
        have pk:k*(m+1)+j-off*(m+1)=(k-off)*(m+1)+j:=by rw[Nat.sub_mul];omega
        have zP:(k-off)*(m+1)+j<len*(m+1):=js (by omega) gq
        rw[List.append_assoc,List.getElem?_append_right (by simp only[List.length_take,oB];omega),List.getElem?_append_left (by simp only[List.length_take,oB,vd];omega)]
        obtain⟨c,oA,B7⟩:=PL _ zP
        rw[DV,jg,Nat.mul_comm (k-off),Nat.mul_add_mod,Nat.mod_eq_of_lt gq,hq]at oA
        injection oA with oA;subst oA
        refine⟨q.val,?_,uE q⟩
        rw[<-B7]
        congr 1
        simp only[List.length_take,oB];omega
       ·rw[List.getElem?_append_right (by simp;omega)]at hk
        simp only[List.length_append,List.length_take,List.length_replicate,List.getElem?_drop]at hk
        rw[show off+len+(k-(min off r.rows.length+len))=k by omega]at hk
        have jy:=(List.getElem?_eq_some_iff.1 hk).1
        have pg:(off+len)*(m+1)<=k*(m+1):=Nat.mul_le_mul_right _ (by omega)
        rw[List.getElem?_append_right (by simp only[List.length_append,List.length_take,oB,vd];omega)]
        simp only[List.length_append,List.length_take,oB,vd,List.getElem?_drop]
        rw[show off*(m+1)+len*(m+1)+(k*(m+1)+j-(min (off*(m+1)) cur.size+len*(m+1)))=k*(m+1)+j by omega]
        have:=tR k j cs b hk hj
        rw[wO]at this;simpa using this)
    refine⟨undef,_,ι,.inl (kC ho ?_),P2,P1,da.undef,fun _ _=>rfl⟩
    rw[ex]
    cases len with
    |zero=>exact(h0 rfl).elim
    |succ len=>
     simp only[Builtin.clear_,Sem.run_bind]
     simp[run_underlying ht,zeroValue,typeInfo,hi,tY,dL,undef]
  ·simp at hv
 ·simp at hv
theorem FN {dT sT ty e:TypeId} {it:TypeInfo} (hu:P.underlying dT=some (.slice e)) (hi:P.info? e=some it) (A B:Option Addr) (qx CV EL LX:Nat) (h0:Nat.min qx EL=0):
  (Builtin.copy_ #[dT,sT] ty #[.slice A EL LX,.slice B qx CV]).run P w=.ok (goInt 0) w:=by
 cases A<;>cases B<;>simp[Builtin.copy_,run_underlying hu,Builtin.lenOf,Builtin.firstCells,sizeOf,typeInfo,hi,h0,storeCells,loadCells,loadCellsFrom]
theorem FO {dT sT ty e:TypeId} {it:TypeInfo} (hu:P.underlying dT=some (.slice e)) (hi:P.info? e=some it) (A B:Addr) (qx CV EL LX:Nat) (cs:List Value) (hn:cs.length=Nat.min qx EL*it.size) (hl:(loadCells B cs.length).run P w=.ok cs.toArray w) (hs:(storeCells A cs).run P w=.ok () w'):
  (Builtin.copy_ #[dT,sT] ty #[.slice (some A) EL LX,.slice (some B) qx CV]).run P w=.ok (goInt (Nat.min qx EL)) w':=by
 simp[Builtin.copy_,run_underlying hu,Builtin.lenOf,Builtin.firstCells,sizeOf,typeInfo,hi,<-hn,hl,hs]
theorem oR {x y:Operand} {t t2:TypeId} {u:Value} (ho:o.op=.call {callee:=.builtin .copy,args:= #[x,y],argTypes:= #[t,t2]}) (h:(Builtin.copy_ #[t,t2] o.type #[a.eval x,a.eval y]).run P w=.ok u w'):(execOp a.eval o).run P w=.ok (.value u) w':=by
 simp only[execOp,ho,resolve,Sem.run_bind,Sem.run_pure,Result.andThen_ok,invoke,builtin]
 simp only[List.map_toArray,List.map_cons,List.map_nil]
 rw[h];rfl
theorem LY {x y:Operand} {x' y':O} {t t2 e:TypeId} {m:Nat} {ys:List (List AV)} {v:AV} {g':Rows} (S:fW P hs D ι g w) (E:bV P w D ι env a) (ho:o.op=.call {callee:=.builtin .copy,args:= #[x,y],argTypes:= #[t,t2]})
  (ht:P.underlying t=some (.slice e)) (eW:ec P e=some (m+1)) (hx:cO P x=some x') (hy:cO P y=some y') (Bg:bd g (cV env y')=some ys) (hv:Ej g (m+1) (cV env x') ys=some (v,g')):Bi P hs a o w D ι id v g':=by
 have rx:=db E hx
 have ry:=db E hy
 obtain⟨it,hi,jg⟩:∃it,P.info? e=some it/\it.size=m+1:=by
  cases hq:P.info? e with
  |none=>simp[ec,hq]at eW
  |some it=>exact⟨it,rfl,by simpa[ec,hq]using eW⟩
 unfold Ej at hv
 split at hv
 ·rename_i i off len hb
  rw[hb]at rx
  simp only[Option.bind_eq_some_iff]at hv
  obtain⟨r,hg,hv⟩:=hv
  split at hv
  ·rename_i hc
   obtain⟨c1,c2,c3,c4⟩:=hc
   simp only[Option.some.injEq,Prod.mk.injEq]at hv
   obtain⟨rfl,rfl⟩:=hv
   rw[List.all_eq_true]at c4
   have hl:∀c∈ys,c.length=m+1:=fun c hc=>by have:=c4 c hc;simp at this;exact this.1
   have hf:∀c∈ys,∀b∈c,b.cell=true:=fun c hc b hb=>by have:=c4 c hc;simp at this;exact this.2 b hb
   obtain⟨oo,cap,B,ex,hB,h1,h2,h3,h4,hk⟩:=iy rx
   obtain⟨B',dK,R,jW,nB⟩:=S.row _ _ hg
   rw[hB]at dK;injection dK with dK;subst dK
   replace R:=R.row hk
   obtain⟨cur,T,hblk,hC,tR⟩:=R.cur
   obtain⟨A,sc,hu,hA⟩:=qu S ry Bg hl hf
   by_cases h0:min ys.length len=0
   ·rw[h0]
    have e1:({r with rows:=r.rows.take off++ys.take 0++r.rows.drop (off+0)}:Row)=r:=by cases r;simp
    rw[e1]
    have e2:bK g i r=g:=by
     funext q;unfold bK;split
     ·rename_i h;rw[h,hg]
     ·rfl
    rw[e2]
    refine⟨goInt 0,w,ι,.inl (oR ho (by rw[ex,hu];exact FN ht hi _ _ _ _ _ _ h0)),Step.refl _ _ _ _,S,.eO _ _ (.int _ _),fun _ _=>rfl⟩
   ·rcases hA with rfl|⟨b,o2,news,rfl,wL,hsrc,hR,h1c⟩
    ·simp at h0
    have Pp:Nat.min ys.length len=min ys.length len:=rfl
    have hky:min ys.length len<=ys.length:=Nat.min_le_left _ _
    have jy:min ys.length len<=len:=Nat.min_le_right _ _
    generalize hkk:min ys.length len=kk at *
    have hlen0:len≠0:=by omega
    have Bd:oo=off*B.sz:=by rcases h2 with h2|h2<;>omega
    have Hi:B.sz=m+1:=by rw[R.sz,c2]
    have wO:r.sz=m+1:=c2
    have QS:kk*(m+1)<=ys.length*(m+1):=Nat.mul_le_mul_right _ hky
    have vd:(news.take (kk*(m+1))).length=kk*(m+1):=by rw[List.length_take,wL];omega
    have hbound:(off+kk)*(m+1)<=r.rows.length*(m+1):=Nat.mul_le_mul_right _ (by omega)
    have zO:=R.fits
    rw[wO]at zO
    have Ss:(off+kk)*(m+1)=off*(m+1)+kk*(m+1):=Nat.add_mul _ _ _
    have dL:=run_storeCells_at P B.b oo T (news.take (kk*(m+1))) 0 cur w hblk (by rw[vd,hC,Bd,Hi];omega) (fun v hv=>h1c v (List.mem_of_mem_take hv))
    have QV:=run_loadCells_list (P:=P) w ⟨b,o2,none⟩ (news.take (kk*(m+1))) (fun j v hj=>by
     rw[List.getElem?_take]at hj
     split at hj
     ·have:=hsrc j v hj
      cases j with
      |zero=>simpa[Addr.add]using this
      |succ j=>simpa[Addr.add]using this
     ·cases hj)
    simp only[Nat.add_zero]at dL
    have oB:cur.toList.length=cur.size:=Array.length_toList
    have Gn:(ys.take kk).length=kk:=by rw[List.length_take];omega
    obtain⟨P1,P2⟩:=S.put (r':={r with rows:=r.rows.take off++ys.take kk++r.rows.drop (off+kk)}) hg c1 hB hblk (cur':=(cur.toList.take oo++news.take (kk*(m+1))++cur.toList.drop (oo+(news.take (kk*(m+1))).length)).toArray)
     (by simp only[List.size_toArray,List.length_append,List.length_drop,oB,vd];rw[List.length_take,oB,Bd,Hi];omega) c1 rfl (by
      have:(r.rows.take off++ys.take kk++r.rows.drop (off+kk)).length=r.rows.length:=by simp;omega
      dsimp only;rw[this];exact R.fits) (fun cs dp=>by
      rcases List.mem_append.1 dp with h|h
      ·rcases List.mem_append.1 h with h|h
       ·exact R.len cs (List.mem_of_mem_take h)
       ·rw[hl cs (List.mem_of_mem_take h)];exact c2.symm
      ·exact R.len cs (List.mem_of_mem_drop h)) (fun cs dp b hb=>by
      rcases List.mem_append.1 dp with h|h
      ·rcases List.mem_append.1 h with h|h
       ·exact R.flat cs (List.mem_of_mem_take h) b hb
       ·exact hf cs (List.mem_of_mem_take h) b hb
      ·exact R.flat cs (List.mem_of_mem_drop h) b hb) (fun k j cs b hk hj=>by
      simp only[List.getElem?_toArray]
      rw[wO]
      rw[Bd,Hi,vd]
      by_cases ph:k<off
      ·rw[List.append_assoc,List.getElem?_append_left (by simp;omega),List.getElem?_take,if_pos ph]at hk
       have gq:j<m+1:=by rw[<-wO,<-R.len cs (List.mem_of_getElem? hk)];exact(List.getElem?_eq_some_iff.1 hj).1
       have h2:=js ph gq
       rw[List.append_assoc,List.getElem?_append_left (by simp only[List.length_take,oB];omega),List.getElem?_take,if_pos h2]
       have:=tR k j cs b hk hj
       rw[wO]at this;simpa using this
      ·by_cases rl:k<off+kk
       ·rw[List.append_assoc,List.getElem?_append_right (by simp;omega),List.getElem?_append_left (by simp;omega)]at hk
        simp only[List.length_take]at hk
        rw[show k-min off r.rows.length=k-off by omega,List.getElem?_take,if_pos (by omega)]at hk
        have gq:j<m+1:=by rw[<-hl cs (List.mem_of_getElem? hk)];exact(List.getElem?_eq_some_iff.1 hj).1
        have pg:off*(m+1)<=k*(m+1):=Nat.mul_le_mul_right _ (by omega)
        have pk:k*(m+1)+j-off*(m+1)=(k-off)*(m+1)+j:=by rw[Nat.sub_mul];omega
        have zP:(k-off)*(m+1)+j<kk*(m+1):=js (by omega) gq
        rw[List.append_assoc,List.getElem?_append_right (by simp only[List.length_take,oB];omega),List.getElem?_append_left (by rw[vd];simp only[List.length_take,oB];omega)]
        obtain⟨u,PF,hu2⟩:=hR.2 ((k-off)*(m+1)+j) b (flat_get hl hk hj)
        refine⟨u,?_,hu2⟩
        rw[List.getElem?_take]
        simp only[List.length_take,oB]
        rw[show k*(m+1)+j-min (off*(m+1)) cur.size=(k-off)*(m+1)+j by omega,if_pos zP]
        simpa using PF
       ·rw[List.getElem?_append_right (by simp;omega)]at hk
        simp only[List.length_append,List.length_take,List.getElem?_drop]at hk
        rw[show off+kk+(k-(min off r.rows.length+min kk ys.length))=k by omega]at hk
        have jy:=(List.getElem?_eq_some_iff.1 hk).1
        have pg:(off+kk)*(m+1)<=k*(m+1):=Nat.mul_le_mul_right _ (by omega)
        rw[List.getElem?_append_right (by rw[List.length_append,vd];simp only[List.length_take,oB];omega)]
        rw[List.getElem?_drop,List.length_append,vd]
        simp only[List.length_take,oB]
        rw[show off*(m+1)+kk*(m+1)+(k*(m+1)+j-(min (off*(m+1)) cur.size+kk*(m+1)))=k*(m+1)+j by omega]
        have:=tR k j cs b hk hj
        rw[wO]at this;simpa using this)
    refine⟨goInt kk,_,ι,.inl (oR ho ?_),P2,P1,.eO _ _ (.int _ _),fun _ _=>rfl⟩
    rw[ex,hu]
    have:=FO (w:=w) (sT:=t2) (ty:=o.type) ht hi ⟨B.b,oo,none⟩ ⟨b,o2,none⟩ ys.length sc len cap _ (by rw[vd,Pp,jg]) QV dL
    rw[Pp]at this
    exact this
  ·simp at hv
 ·simp at hv
end
end Go.Proofs.YtgoljkjaameagaaGreat.V

namespace Go.Proofs.YtgoljkjaameagaaGreat.V
open Go.RowKit
variable {P:Program} {w w':World} {D D' D2:Nat->Prop} {ι ι' ι2:Names}
section
variable {g:Rows} {hs:Nat}
theorem gG:∀{n:Nat} {l r:List AV},dj g n l=some r->r.length=l.length/\∀(j:Nat) (b:AV),r[j]? =some b->∃a,l[j]? =some a/\fz g n a=some b
 |n,[],r,h=>by
  rw[dj]at h;simp at h;subst h;simp
 |n,a::l,r,h=>by
  rw[dj]at h
  split at h
  ·rename_i b hb
   simp only[Option.map_eq_some_iff]at h
   obtain⟨r',hr,rfl⟩:=h
   obtain⟨h1,h2⟩:=gG hr
   refine⟨by simp[h1],fun j c hj=>?_⟩
   cases j with
   |zero=>simp at hj;subst hj;exact⟨a,rfl,hb⟩
   |succ j=>simp at hj ⊢;exact h2 j c hj
  ·simp at h
theorem tO:∀{n:Nat} {l r:List (List AV)},eh g n l=some r->r.length=l.length/\∀(j:Nat) (b:List AV),r[j]? =some b->∃a,l[j]? =some a/\dj g n a=some b
 |n,[],r,h=>by
  rw[eh]at h;simp at h;subst h;simp
 |n,a::l,r,h=>by
  rw[eh]at h
  split at h
  ·rename_i b hb
   simp only[Option.map_eq_some_iff]at h
   obtain⟨r',hr,rfl⟩:=h
   obtain⟨h1,h2⟩:=tO hr
   refine⟨by simp[h1],fun j c hj=>?_⟩
   cases j with
   |zero=>simp at hj;subst hj;exact⟨a,rfl,hb⟩
   |succ j=>simp at hj ⊢;exact h2 j c hj
  ·simp at h
theorem tP (hD:∀b,D b->D2 b) (xw:∀id row,g id=some row->row.w=true->∃B,ι id=some B/\iQ P w D ι B row/\D2 B.b):∀(n:Nat) (a:AV) (u:Value) (r:AV),da P w D ι a u->fz g n a=some r->da P w D2 ι2 r u/\(a.cell=true->jC P w D2 r u/\r.cell=true):=by
 intro n
 induction n with
 |zero=>intro a u r _ h;rw[fz]at h;simp at h
 |succ n ih=>
  intro a u r hr h
  have both:∀{r:AV},jC P w D2 r u->r.cell=true->da P w D2 ι2 r u/\(a.cell=true->jC P w D2 r u/\r.cell=true):=fun h1 h2=>⟨.eO _ _ h1,fun _=>⟨h1,h2⟩⟩
  cases a with
  |map id m=>rw[fz]at h;cases h
  |sP id=>rw[fz]at h;cases h
  |own id off len=>
   rw[fz]at h
   split at h
   ·rename_i row hg
    split at h
    ·rename_i hw
     split at h
     ·rename_i hle
      simp only[Option.map_eq_some_iff]at h
      obtain⟨rows,qe,rfl⟩:=h
      obtain⟨B,hB,R,Mc⟩:=xw id row hg hw
      obtain⟨o,cap,B',rfl,dK,h1,h2,h3,h4,hk⟩:=iy hr
      rw[hB]at dK;injection dK with dK;subst dK
      replace R:=R.row hk
      obtain⟨l1,l2⟩:=tO qe
      have hlen:rows.length=len:=by rw[l1];simp;omega
      by_cases h0:rows=[]
      ·subst h0
       simp at hlen;subst hlen
       exact both (.FP _ _ h4) rfl
      ·have hlp:0<len:=by rw[<-hlen];exact List.length_pos_iff.2 h0
       have ho:o=off*B.sz:=by rcases h2 with h2|h2<;>omega
       have src:∀i cs,rows[i]? =some cs->∃c0,row.rows[off+i]? =some c0/\dj g n c0=some cs:=fun i cs hi=>by
        obtain⟨c0,jk,hf⟩:=l2 i cs hi
        rw[List.getElem?_take]at jk
        split at jk
        ·rw[List.getElem?_drop]at jk;exact⟨c0,jk,hf⟩
        ·simp at jk
       have cell:∀i j,i<len->j<row.sz->∃c0 a0 v,row.rows[off+i]? =some c0/\c0[j]? =some a0/\w.cell? ⟨B.b,o+(i*row.sz+j),none⟩=some v/\da P w D ι a0 v:=fun i j hi hj=>by
        have pK:off+i<row.rows.length:=by omega
        have e1:=List.getElem?_eq_getElem pK
        have I2:j<row.rows[off+i].length:=by rw[R.len _ (List.getElem_mem pK)];exact hj
        obtain⟨v,hv,kY⟩:=R.at_ _ _ _ _ e1 (List.getElem?_eq_getElem I2)
        refine⟨_,_,v,e1,List.getElem?_eq_getElem I2,?_,kY⟩
        rw[ho,R.sz,<-hv]
        congr 2
        rw[Nat.add_mul];omega
       refine both (.sl rows B.b o len cap row.sz (fun i j=>(w.cell? ⟨B.b,o+(i*row.sz+j),none⟩).getD undef) hlen h1 h4 Mc (fun cs dp=>?_) (fun cs dp b hb=>?_) (fun i j hi hj=>?_) (fun i j cs b hi hj=>?_)) rfl
       ·obtain⟨i,hi,rfl⟩:=List.getElem_of_mem dp
        obtain⟨c0,jk,hf⟩:=src i _ (List.getElem?_eq_getElem hi)
        rw[(gG hf).1];exact R.len c0 (List.mem_of_getElem? jk)
       ·obtain⟨i,hi,rfl⟩:=List.getElem_of_mem dp
        obtain⟨c0,jk,hf⟩:=src i _ (List.getElem?_eq_getElem hi)
        obtain⟨j,hj,rfl⟩:=List.getElem_of_mem hb
        obtain⟨a0,kX,Hp⟩:=(gG hf).2 j _ (List.getElem?_eq_getElem hj)
        obtain⟨v,_,kY⟩:=R.at_ _ _ _ _ jk kX
        exact((ih _ _ _ kY Hp).2 (R.flat c0 (List.mem_of_getElem? jk) a0 (List.mem_of_getElem? kX))).2
       ·obtain⟨c0,a0,v,_,_,hv,_⟩:=cell i j hi hj
        simp only[hv,Option.getD_some]
       ·obtain⟨c0,jk,hf⟩:=src i cs hi
        obtain⟨a0,kX,Hp⟩:=(gG hf).2 j b hj
        have mC:i<len:=by rw[<-hlen];exact(List.getElem?_eq_some_iff.1 hi).1
        have gq:j<row.sz:=by rw[<-R.len c0 (List.mem_of_getElem? jk)];exact(List.getElem?_eq_some_iff.1 kX).1
        obtain⟨c1,a1,v,e1,e2,hv,kY⟩:=cell i j mC gq
        rw[jk]at e1;injection e1 with e1;subst e1
        rw[kX]at e2;injection e2 with e2;subst e2
        simp only[hv,Option.getD_some]
        exact((ih _ _ _ kY Hp).2 (R.flat c0 (List.mem_of_getElem? jk) a0 (List.mem_of_getElem? kX))).1
     ·simp at h
    ·simp at h
   ·simp at h
  |ptr id i off=>
   rw[fz]at h
   split at h
   ·rename_i row hg
    split at h
    ·rename_i hw
     split at h
     ·rename_i c0 jk
      simp only[Option.map_eq_some_iff]at h
      obtain⟨cs,dp,rfl⟩:=h
      obtain⟨B,hB,R,Mc⟩:=xw id row hg hw
      obtain⟨B',rfl,dK,hk⟩:=iz hr
      rw[hB]at dK;injection dK with dK;subst dK
      replace R:=R.row hk
      obtain⟨l1,l2⟩:=gG dp
      have at_:∀j b,cs[j]? =some b->∃a0 v,w.cell? ⟨B.b,i*B.sz+off+j,none⟩=some v/\da P w D ι a0 v/\a0.cell=true/\fz g n a0=some b:=fun j b hj=>by
       obtain⟨a0,kX,hf⟩:=l2 j b hj
       rw[List.getElem?_drop]at kX
       obtain⟨v,hv,kY⟩:=R.at_ _ _ _ _ jk kX
       refine⟨a0,v,?_,kY,R.flat c0 (List.mem_of_getElem? jk) a0 (List.mem_of_getElem? kX),hf⟩
       rw[R.sz,Nat.add_assoc];exact hv
      refine both (.dd cs B.b _ (fun j=>(w.cell? ⟨B.b,i*B.sz+off+j,none⟩).getD undef) Mc (fun b hb=>?_) (fun j hj=>?_) (fun j b hj=>?_)) rfl
      ·obtain⟨j,hj,rfl⟩:=List.getElem_of_mem hb
       obtain⟨a0,v,_,kY,hc,hf⟩:=at_ j _ (List.getElem?_eq_getElem hj)
       exact((ih _ _ _ kY hf).2 hc).2
      ·obtain⟨a0,v,hv,_⟩:=at_ j _ (List.getElem?_eq_getElem hj)
       simp only[hv,Option.getD_some]
      ·obtain⟨a0,v,hv,kY,hc,hf⟩:=at_ j b hj
       simp only[hv,Option.getD_some]
       exact((ih _ _ _ kY hf).2 hc).1
     ·simp at h
    ·simp at h
   ·simp at h
  |agg cs=>
   rw[fz]at h
   simp only[Option.map_eq_some_iff]at h
   obtain⟨r',vI,rfl⟩:=h
   obtain⟨vs,f,rfl,h1,h2,h3,h4⟩:=iw hr
   obtain⟨l1,l2⟩:=gG vI
   have hI:jC P w D2 (.agg r') (.agg vs):=.agg r' vs f (by rw[h1,l1]) (fun b hb=>by
    obtain⟨j,hj,rfl⟩:=List.getElem_of_mem hb
    obtain⟨a0,kX,hf⟩:=l2 j _ (List.getElem?_eq_getElem hj)
    exact((ih _ _ _ (h4 j a0 kX) hf).2 (h2 a0 (List.mem_of_getElem? kX))).2) (fun j hj=>h3 j (by rw[<-l1];exact hj)) (fun j b hj=>by
    obtain⟨a0,kX,hf⟩:=l2 j b hj
    exact((ih _ _ _ (h4 j a0 kX) hf).2 (h2 a0 (List.mem_of_getElem? kX))).1)
   exact⟨.eO _ _ hI,fun hc=>by simp[AV.cell]at hc⟩
  |im cs=>
   rw[fz]at h
   simp only[Option.map_eq_some_iff]at h
   obtain⟨r',vI,rfl⟩:=h
   obtain⟨vs,f,rfl,h1,h3,h4⟩:=yw hr
   obtain⟨l1,l2⟩:=gG vI
   exact⟨.im r' vs f (by rw[h1,l1]) (fun j hj=>h3 j (by rw[<-l1];exact hj)) (fun j b hj=>by
    obtain⟨a0,kX,hf⟩:=l2 j b hj
    exact(ih _ _ _ (h4 j a0 kX) hf).1),fun hc=>by simp[AV.cell]at hc⟩
  |fn f cX=>
   rw[fz]at h
   split at h
   ·rename_i dy
    simp only[Option.map_eq_some_iff]at h
    obtain⟨r',vI,rfl⟩:=h
    obtain⟨vs,q,rfl,h0,h1,h3,h4⟩:=uD hr
    obtain⟨l1,l2⟩:=gG vI
    exact both (.fn f r' vs q h0 (by rw[h1,l1]) (fun j hj=>h3 j (by rw[<-l1];exact hj)) (fun j b hj=>by
     obtain⟨a0,kX,hf⟩:=l2 j b hj
     exact((ih _ _ _ (h4 j a0 kX) hf).2 (List.all_eq_true.1 dy a0 (List.mem_of_getElem? kX))).1)) rfl
   ·simp at h
  |int k m=>rw[fz]at h<;>(try simp at h)<;>(try subst h)<;>(try(rw[dc hr];exact⟨.eO _ _ (.int _ _),fun _=>⟨.int _ _,rfl⟩⟩))<;>(try(intros;simp_all))
  |bool b=>rw[fz]at h<;>(try simp at h)<;>(try subst h)<;>(try(rw[eT hr];exact⟨.eO _ _ (.bool _),fun _=>⟨.bool _,rfl⟩⟩))<;>(try(intros;simp_all))
  |str b=>rw[fz]at h<;>(try simp at h)<;>(try subst h)<;>(try(rw[fm hr];exact⟨.eO _ _ (.str _),fun _=>⟨.str _,rfl⟩⟩))<;>(try(intros;simp_all))
  |cq=>rw[fz]at h<;>(try simp at h)<;>(try subst h)<;>(try(rw[iu hr];exact⟨.eO _ _ .cq,fun _=>⟨.cq,rfl⟩⟩))<;>(try(intros;simp_all))
  |jJ=>rw[fz]at h<;>(try simp at h)<;>(try subst h)<;>(try(rw[uF hr];exact⟨.eO _ _ .jJ,fun _=>⟨.jJ,rfl⟩⟩))<;>(try(intros;simp_all))
  |jS=>rw[fz]at h<;>(try simp at h)<;>(try subst h)<;>(try(rw[AI hr];exact⟨.eO _ _ .jS,fun _=>⟨.jS,rfl⟩⟩))<;>(try(intros;simp_all))
  |ui f cX=>rw[fz]at h<;>(try simp at h)<;>(try(intros;simp_all))
  |gW=>rw[fz]at h<;>(try simp at h)<;>(try subst h)<;>(try(cases hr with|eO _ _ hr=>exact both (hr.frame (fun _ _=>rfl) hD) rfl))<;>(try(intros;simp_all))
  |sl rows=>rw[fz]at h<;>(try simp at h)<;>(try subst h)<;>(try(cases hr with|eO _ _ hr=>exact both (hr.frame (fun _ _=>rfl) hD) rfl))<;>(try(intros;simp_all))
  |dd cs=>rw[fz]at h<;>(try simp at h)<;>(try subst h)<;>(try(cases hr with|eO _ _ hr=>exact both (hr.frame (fun _ _=>rfl) hD) rfl))<;>(try(intros;simp_all))
theorem iD:∀{n:Nat} {l r:List AV},ep g n l=some r->r.length=l.length/\∀(j:Nat) (b:AV),r[j]? =some b->∃a,l[j]? =some a/\fV g n a=some b
 |n,[],r,h=>by
  rw[ep]at h;simp at h;subst h;simp
 |n,a::l,r,h=>by
  rw[ep]at h
  split at h
  ·rename_i b hb
   simp only[Option.map_eq_some_iff]at h
   obtain⟨r',hr,rfl⟩:=h
   obtain⟨h1,h2⟩:=iD hr
   refine⟨by simp[h1],fun j c hj=>?_⟩
   cases j with
   |zero=>simp at hj;subst hj;exact⟨a,rfl,hb⟩
   |succ j=>simp at hj ⊢;exact h2 j c hj
  ·simp at h
theorem r5:∀{n:Nat} {l r:List (List AV)},gL g n l=some r->r.length=l.length/\∀(j:Nat) (b:List AV),r[j]? =some b->∃a,l[j]? =some a/\ep g n a=some b
 |n,[],r,h=>by
  rw[gL]at h;simp at h;subst h;simp
 |n,a::l,r,h=>by
  rw[gL]at h
  split at h
  ·rename_i b hb
   simp only[Option.map_eq_some_iff]at h
   obtain⟨r',hr,rfl⟩:=h
   obtain⟨h1,h2⟩:=r5 hr
   refine⟨by simp[h1],fun j c hj=>?_⟩
   cases j with
   |zero=>simp at hj;subst hj;exact⟨a,rfl,hb⟩
   |succ j=>simp at hj ⊢;exact h2 j c hj
  ·simp at h
theorem EX (xw:∀id row,g id=some row->row.w=true->∃B,ι id=some B/\iQ P w D ι B row/\D2 B.b):∀(n:Nat) (a:AV) (u:Value) (r:AV),da P w D ι a u->fV g n a=some r->da P w D2 ι2 r u/\(a.cell=true->jC P w D2 r u/\r.cell=true):=by
 intro n
 induction n with
 |zero=>intro a u r _ h;rw[fV]at h;simp at h
 |succ n ih=>
  intro a u r hr h
  have both:∀{r:AV},jC P w D2 r u->r.cell=true->da P w D2 ι2 r u/\(a.cell=true->jC P w D2 r u/\r.cell=true):=fun h1 h2=>⟨.eO _ _ h1,fun _=>⟨h1,h2⟩⟩
  cases a with
  |map id m=>rw[fV]at h<;>simp_all
  |sP id=>rw[fV]at h<;>simp_all
  |own id off len=>
   rw[fV]at h
   split at h
   ·rename_i row hg
    split at h
    ·rename_i hw
     split at h
     ·rename_i hle
      simp only[Option.map_eq_some_iff]at h
      obtain⟨rows,qe,rfl⟩:=h
      obtain⟨B,hB,R,Mc⟩:=xw id row hg hw
      obtain⟨o,cap,B',rfl,dK,h1,h2,h3,h4,hk⟩:=iy hr
      rw[hB]at dK;injection dK with dK;subst dK
      replace R:=R.row hk
      obtain⟨l1,l2⟩:=r5 qe
      have hlen:rows.length=len:=by rw[l1];simp;omega
      by_cases h0:rows=[]
      ·subst h0
       simp at hlen;subst hlen
       exact both (.FP _ _ h4) rfl
      ·have hlp:0<len:=by rw[<-hlen];exact List.length_pos_iff.2 h0
       have ho:o=off*B.sz:=by rcases h2 with h2|h2<;>omega
       have src:∀i cs,rows[i]? =some cs->∃c0,row.rows[off+i]? =some c0/\ep g n c0=some cs:=fun i cs hi=>by
        obtain⟨c0,jk,hf⟩:=l2 i cs hi
        rw[List.getElem?_take]at jk
        split at jk
        ·rw[List.getElem?_drop]at jk;exact⟨c0,jk,hf⟩
        ·simp at jk
       have cell:∀i j,i<len->j<row.sz->∃c0 a0 v,row.rows[off+i]? =some c0/\c0[j]? =some a0/\w.cell? ⟨B.b,o+(i*row.sz+j),none⟩=some v/\da P w D ι a0 v:=fun i j hi hj=>by
        have pK:off+i<row.rows.length:=by omega
        have e1:=List.getElem?_eq_getElem pK
        have I2:j<row.rows[off+i].length:=by rw[R.len _ (List.getElem_mem pK)];exact hj
        obtain⟨v,hv,kY⟩:=R.at_ _ _ _ _ e1 (List.getElem?_eq_getElem I2)
        refine⟨_,_,v,e1,List.getElem?_eq_getElem I2,?_,kY⟩
        rw[ho,R.sz,<-hv]
        congr 2
        rw[Nat.add_mul];omega
       refine both (.sl rows B.b o len cap row.sz (fun i j=>(w.cell? ⟨B.b,o+(i*row.sz+j),none⟩).getD undef) hlen h1 h4 Mc (fun cs dp=>?_) (fun cs dp b hb=>?_) (fun i j hi hj=>?_) (fun i j cs b hi hj=>?_)) rfl
       ·obtain⟨i,hi,rfl⟩:=List.getElem_of_mem dp
        obtain⟨c0,jk,hf⟩:=src i _ (List.getElem?_eq_getElem hi)
        rw[(iD hf).1];exact R.len c0 (List.mem_of_getElem? jk)
       ·obtain⟨i,hi,rfl⟩:=List.getElem_of_mem dp
        obtain⟨c0,jk,hf⟩:=src i _ (List.getElem?_eq_getElem hi)
        obtain⟨j,hj,rfl⟩:=List.getElem_of_mem hb
        obtain⟨a0,kX,Hp⟩:=(iD hf).2 j _ (List.getElem?_eq_getElem hj)
        obtain⟨v,_,kY⟩:=R.at_ _ _ _ _ jk kX
        exact((ih _ _ _ kY Hp).2 (R.flat c0 (List.mem_of_getElem? jk) a0 (List.mem_of_getElem? kX))).2
       ·obtain⟨c0,a0,v,_,_,hv,_⟩:=cell i j hi hj
        simp only[hv,Option.getD_some]
       ·obtain⟨c0,jk,hf⟩:=src i cs hi
        obtain⟨a0,kX,Hp⟩:=(iD hf).2 j b hj
        have mC:i<len:=by rw[<-hlen];exact(List.getElem?_eq_some_iff.1 hi).1
        have gq:j<row.sz:=by rw[<-R.len c0 (List.mem_of_getElem? jk)];exact(List.getElem?_eq_some_iff.1 kX).1
        obtain⟨c1,a1,v,e1,e2,hv,kY⟩:=cell i j mC gq
        rw[jk]at e1;injection e1 with e1;subst e1
        rw[kX]at e2;injection e2 with e2;subst e2
        simp only[hv,Option.getD_some]
        exact((ih _ _ _ kY Hp).2 (R.flat c0 (List.mem_of_getElem? jk) a0 (List.mem_of_getElem? kX))).1
     ·simp at h
    ·simp at h
   ·simp at h
  |ptr id i off=>
   rw[fV]at h
   split at h
   ·rename_i row hg
    split at h
    ·rename_i hw
     split at h
     ·rename_i c0 jk
      simp only[Option.map_eq_some_iff]at h
      obtain⟨cs,dp,rfl⟩:=h
      obtain⟨B,hB,R,Mc⟩:=xw id row hg hw
      obtain⟨B',rfl,dK,hk⟩:=iz hr
      rw[hB]at dK;injection dK with dK;subst dK
      replace R:=R.row hk
      obtain⟨l1,l2⟩:=iD dp
      have at_:∀j b,cs[j]? =some b->∃a0 v,w.cell? ⟨B.b,i*B.sz+off+j,none⟩=some v/\da P w D ι a0 v/\a0.cell=true/\fV g n a0=some b:=fun j b hj=>by
       obtain⟨a0,kX,hf⟩:=l2 j b hj
       rw[List.getElem?_drop]at kX
       obtain⟨v,hv,kY⟩:=R.at_ _ _ _ _ jk kX
       refine⟨a0,v,?_,kY,R.flat c0 (List.mem_of_getElem? jk) a0 (List.mem_of_getElem? kX),hf⟩
       rw[R.sz,Nat.add_assoc];exact hv
      refine both (.dd cs B.b _ (fun j=>(w.cell? ⟨B.b,i*B.sz+off+j,none⟩).getD undef) Mc (fun b hb=>?_) (fun j hj=>?_) (fun j b hj=>?_)) rfl
      ·obtain⟨j,hj,rfl⟩:=List.getElem_of_mem hb
       obtain⟨a0,v,_,kY,hc,hf⟩:=at_ j _ (List.getElem?_eq_getElem hj)
       exact((ih _ _ _ kY hf).2 hc).2
      ·obtain⟨a0,v,hv,_⟩:=at_ j _ (List.getElem?_eq_getElem hj)
       simp only[hv,Option.getD_some]
      ·obtain⟨a0,v,hv,kY,hc,hf⟩:=at_ j b hj
       simp only[hv,Option.getD_some]
       exact((ih _ _ _ kY hf).2 hc).1
     ·simp at h
    ·simp at h
   ·simp at h
  |agg cs=>
   rw[fV]at h
   simp only[Option.map_eq_some_iff]at h
   obtain⟨r',vI,rfl⟩:=h
   obtain⟨vs,f,rfl,h1,h2,h3,h4⟩:=iw hr
   obtain⟨l1,l2⟩:=iD vI
   have hI:jC P w D2 (.agg r') (.agg vs):=.agg r' vs f (by rw[h1,l1]) (fun b hb=>by
    obtain⟨j,hj,rfl⟩:=List.getElem_of_mem hb
    obtain⟨a0,kX,hf⟩:=l2 j _ (List.getElem?_eq_getElem hj)
    exact((ih _ _ _ (h4 j a0 kX) hf).2 (h2 a0 (List.mem_of_getElem? kX))).2) (fun j hj=>h3 j (by rw[<-l1];exact hj)) (fun j b hj=>by
    obtain⟨a0,kX,hf⟩:=l2 j b hj
    exact((ih _ _ _ (h4 j a0 kX) hf).2 (h2 a0 (List.mem_of_getElem? kX))).1)
   exact⟨.eO _ _ hI,fun hc=>by simp[AV.cell]at hc⟩
  |im cs=>
   rw[fV]at h
   simp only[Option.map_eq_some_iff]at h
   obtain⟨r',vI,rfl⟩:=h
   obtain⟨vs,f,rfl,h1,h3,h4⟩:=yw hr
   obtain⟨l1,l2⟩:=iD vI
   exact⟨.im r' vs f (by rw[h1,l1]) (fun j hj=>h3 j (by rw[<-l1];exact hj)) (fun j b hj=>by
    obtain⟨a0,kX,hf⟩:=l2 j b hj
    exact(ih _ _ _ (h4 j a0 kX) hf).1),fun hc=>by simp[AV.cell]at hc⟩
  |fn f cX=>rw[fV]at h<;>(try simp at h)<;>(try(intros;simp_all))
  |int k m=>rw[fV]at h<;>(try simp at h)<;>(try subst h)<;>(try(rw[dc hr];exact⟨.eO _ _ (.int _ _),fun _=>⟨.int _ _,rfl⟩⟩))<;>(try(intros;simp_all))
  |bool b=>rw[fV]at h<;>(try simp at h)<;>(try subst h)<;>(try(rw[eT hr];exact⟨.eO _ _ (.bool _),fun _=>⟨.bool _,rfl⟩⟩))<;>(try(intros;simp_all))
  |str b=>rw[fV]at h<;>(try simp at h)<;>(try subst h)<;>(try(rw[fm hr];exact⟨.eO _ _ (.str _),fun _=>⟨.str _,rfl⟩⟩))<;>(try(intros;simp_all))
  |cq=>rw[fV]at h<;>(try simp at h)<;>(try subst h)<;>(try(rw[iu hr];exact⟨.eO _ _ .cq,fun _=>⟨.cq,rfl⟩⟩))<;>(try(intros;simp_all))
  |jJ=>rw[fV]at h<;>(try simp at h)<;>(try subst h)<;>(try(rw[uF hr];exact⟨.eO _ _ .jJ,fun _=>⟨.jJ,rfl⟩⟩))<;>(try(intros;simp_all))
  |jS=>rw[fV]at h<;>(try simp at h)<;>(try subst h)<;>(try(rw[AI hr];exact⟨.eO _ _ .jS,fun _=>⟨.jS,rfl⟩⟩))<;>(try(intros;simp_all))
  |ui f cX=>rw[fV]at h<;>(try simp at h)<;>(try(intros;simp_all))
  |gW=>rw[fV]at h<;>(try simp at h)<;>(try subst h)<;>(try(cases hr with|eO _ _ hr=>cases hr;exact both .gW rfl))<;>(try(intros;simp_all))
  |sl rows=>rw[fV]at h<;>(try simp at h)<;>(try(intros;simp_all))
  |dd cs=>rw[fV]at h<;>(try simp at h)<;>(try(intros;simp_all))
end
end Go.Proofs.YtgoljkjaameagaaGreat.V

namespace Go.Proofs.YtgoljkjaameagaaGreat.V
open Go.RowKit
variable {P:Program} {w w':World} {D D':Nat->Prop} {ι ι':Names}
section
variable {g:Rows} {hs:Nat} {env:Env} {a:Act} {o:Oper} {id:Id} {v:AV}
theorem fW.F5 (S:fW P hs D ι g w) {i:Id} {r r':Row} {B:sr} {ob:Obj} (hid:g i=some r) (hw:r.w=true) (hB:ι i=some B)
  (hR:(∀a v,da P w D ι a v->da P {w with heap:=w.heap.setIfInBounds B.b ob} D ι a v)->(w.heap.setIfInBounds B.b ob)[B.b]? =some ob->iQ P {w with heap:=w.heap.setIfInBounds B.b ob} D ι B r'):
  fW P hs D ι (bK g i r') {w with heap:=w.heap.setIfInBounds B.b ob}/\Step hs D ι w D ι {w with heap:=w.heap.setIfInBounds B.b ob}:=by
 obtain⟨B0,uY,R,jW,nB⟩:=S.row i r hid
 rw[hB]at uY;injection uY with uY;subst uY
 have other:∀b,b≠B.b->(w.heap.setIfInBounds B.b ob)[b]? =w.heap[b]? :=fun b hb=>by simp[Ne.symm hb]
 have hd:∀b,D b->(w.heap.setIfInBounds B.b ob)[b]? =w.heap[b]? :=fun b hb=>other b (by rintro rfl;exact nB hw hb)
 have hr:∀a v,da P w D ι a v->da P {w with heap:=w.heap.setIfInBounds B.b ob} D ι a v:=fun a v h=>h.frame hd (fun _ h=>h) (fun _ _ h=>h)
 refine⟨⟨by simpa using S.lo,fun b hb=>by simpa using S.dead b hb,fun j q h=>?_,fun j j' q q' C C' h h' Px hC B4 he=>?_⟩,⟨⟨rfl,rfl,rfl,by simp,fun k hk=>other k (by have:=jW hw;omega)⟩,hd,fun _ h=>h,fun _ _ h=>h,fun _ h=>.inl h⟩⟩
 ·unfold bK at h
  split at h
  ·rename_i e
   subst e
   injection h with h;subst h
   exact⟨B,hB,hR hr (by simp[R.lt]),fun _=>jW hw,fun _=>nB hw⟩
  ·rename_i e
   obtain⟨C,hC,RC,k1,k2⟩:=S.row j q h
   refine⟨C,hC,RC.frame (other C.b (fun OZ=>e ?_)) hr,k1,k2⟩
   exact(S.inj i j r q B C hid h hw hB hC OZ.symm).symm
 ·unfold bK at h h'
  have get:∀j p,(if j=i then some r' else g j)=some p->∃p0,g j=some p0/\(p.w=true->p0.w=true):=fun j p hp=>by
   split at hp
   ·rename_i e;subst e;injection hp with hp;subst hp;exact⟨r,hid,fun _=>hw⟩
   ·exact⟨p,hp,fun h=>h⟩
  obtain⟨p,hp,N6⟩:=get _ _ h
  obtain⟨p',MD,_⟩:=get _ _ h'
  exact S.inj j j' p p' C C' hp MD (N6 Px) hC B4 he
theorem DD {s:TS} {x y:AV} {u v:Value} (he:fF s x y=some true) (hx:da P w D ι x u) (hy:da P w D ι y v):u=v/\∀n,Instr.sameBits n u v=true:=by
 unfold fF at he
 split at he
 ·split at he
  ·rename_i hk
   subst hk
   simp at he;subst he
   rw[dc hx,dc hy]
   exact⟨rfl,fun n=>by cases n<;>simp[Instr.sameBits]⟩
  ·cases he
 ·simp at he;subst he
  rw[eT hx,eT hy]
  exact⟨rfl,fun n=>by cases n<;>simp[Instr.sameBits]⟩
 ·simp at he;subst he
  rw[fm hx,fm hy]
  exact⟨rfl,fun n=>by cases n<;>simp[Instr.sameBits,GM]⟩
 ·cases he
theorem zA {n:Nat}:∀{ts:List TS} {xs ys:List AV} {vs us:List Value},eL ts xs ys=some true->vs.length=xs.length->us.length=ys.length->(∀(j:Nat) (a:AV),xs[j]? =some a->∃u,vs[j]? =some u/\da P w D ι a u)->(∀(j:Nat) (a:AV),ys[j]? =some a->∃u,us[j]? =some u/\da P w D ι a u)->
  us.length=vs.length/\(us.zip vs).all (fun p=>Instr.sameBits n p.1 p.2)=true
 |[],[],[],vs,us,_,h1,h2,_,_=>by
  cases vs<;>cases us<;>simp_all
 |[],x::xs,ys,vs,us,h,_,_,_,_=>by simp[eL]at h
 |[],[],y::ys,vs,us,h,_,_,_,_=>by simp[eL]at h
 |t::ts,[],ys,vs,us,h,_,_,_,_=>by simp[eL]at h
 |t::ts,x::xs,[],vs,us,h,_,_,_,_=>by simp[eL]at h
 |t::ts,x::xs,y::ys,[],us,h,h1,_,_,_=>by simp at h1
 |t::ts,x::xs,y::ys,v::vs,[],h,_,h2,_,_=>by simp at h2
 |t::ts,x::xs,y::ys,v::vs,u::us,h,h1,h2,hx,hy=>by
  unfold eL at h
  split at h
  ·rename_i a b ha hb
   simp only[Option.some.injEq,Bool.and_eq_true]at h
   obtain⟨rfl,rfl⟩:=h
   obtain⟨v',mO,rv⟩:=hx 0 x rfl
   obtain⟨u',DT,ru⟩:=hy 0 y rfl
   simp at mO DT;subst mO;subst DT
   obtain⟨e1,e2⟩:=DD ha rv ru
   obtain⟨q1,q2⟩:=zA (n:=n) hb (by simpa using h1) (by simpa using h2) (fun j a hj=>by simpa using hx (j+1) a (by simpa using hj)) (fun j a hj=>by simpa using hy (j+1) a (by simpa using hj))
   refine⟨by simp[q1],?_⟩
   simp only[List.zip_cons_cons,List.all_cons,q2,Bool.and_true]
   rw[<-e1]
   have:=e2 n
   rw[<-e1]at this
   exact this
  ·cases h
theorem Av {m:MK} {key:List AV}:∀{rows:List (List AV)} {i j:Nat},fI m key rows i=some (some j)->∃cs,i<=j/\rows[j-i]? =some cs/\eL m.ts key (cs.take m.ks)=some true
 |[],i,j,h=>by simp[fI]at h
 |cs::rows,i,j,h=>by
  unfold fI at h
  split at h
  ·rename_i hq
   simp at h;subst h
   exact⟨cs,Nat.le_refl _,by simp,hq⟩
  ·obtain⟨c,h1,h2,h3⟩:=Av h
   exact⟨c,by omega,by rw[show j-i=(j-(i+1))+1 by omega];simpa using h2,h3⟩
  ·cases h
theorem uk {m:MK} {k:AV} {rows:List (List AV)} {fi:Option Nat} (h:fC m k rows=some fi):k.isAgg=m.ka/\k.cells.length=m.ks/\(k.cells.all AV.cell=true)/\fI m k.cells rows 0=some fi:=by
 unfold fC at h
 split at h
 ·rename_i hc;exact⟨hc.1,hc.2.1,hc.2.2,h⟩
 ·cases h
theorem H8 {m:MK} {k y:AV} (h1:k.isAgg=m.ka) (h2:k.cells.length=m.ks):part m.ka m.ks (k.cells++[y])=some k/\(k.cells++[y])[m.ks]? =some y:=by
 refine⟨?_,by rw[List.getElem?_append_right (by omega),h2,Nat.sub_self];rfl⟩
 cases hk:m.ka with
 |false=>
  rw[hk]at h1
  rw[tD h1];rfl
 |true=>
  rw[hk]at h1
  cases k<;>simp[AV.isAgg]at h1
  rename_i cs
  simp only[AV.cells]at h2 ⊢
  simp only[part,if_true]
  rw[if_pos (by simp;omega),<-h2,List.take_left']
  rfl
theorem stays {k:TypeId} {m:MK} (hK:Dk P k m) {key kv:AV} {u FE:Value} {cs:List AV} (h1:key.isAgg=m.ka) (hr:da P w D ι key u) (hp:part m.ka m.ks cs=some kv) (ho:da P w D ι kv FE) (he:eL m.ts key.cells (cs.take m.ks)=some true):(Instr.keyThatStays FE u).run P w=.ok u w:=by
 have hs:Instr.sameBits 10000 FE u=true:=by
  rcases hK with⟨s,rfl,hs⟩|⟨fs,ts,rfl,qb,vK,dL,dy⟩
  ·rw[tD h1]at he
   cases cs with
   |nil=>simp[part]at hp
   |cons c l=>
    simp[part]at hp;subst hp
    simp only[MK.ks,List.length_cons,List.length_nil,Nat.zero_add,List.take_succ_cons,List.take_zero,eL]at he
    cases hq:fF s key c with
    |none=>rw[hq]at he;simp at he
    |some b=>
     rw[hq]at he;simp at he;subst he
     obtain⟨e1,e2⟩:=DD hq hr ho
     rw[<-e1]
     have:=e2 10000
     rwa [<-e1]at this
  ·cases key<;>simp[AV.isAgg]at h1
   rename_i ks
   simp only[part,if_true]at hp
   split at hp
   ·simp only[Option.some.injEq]at hp;subst hp
    obtain⟨vs,rfl,n1,r1⟩:=qt hr
    obtain⟨us,rfl,n2,r2⟩:=qt ho
    obtain⟨q1,q2⟩:=zA (n:=9999) (vs:=vs.toList) (us:=us.toList) he (by simpa[AV.cells]using n1) (by simpa using n2) (fun j a hj=>by simpa using r1 j a hj) (fun j a hj=>by simpa using r2 j a hj)
    simp only[Instr.sameBits,Bool.and_eq_true,beq_iff_eq]
    exact⟨by simpa using q1,q2⟩
   ·cases hp
 simp[Instr.keyThatStays,hs]
theorem Ir {es:Array MapEntry} {clock:Nat} (h:Ev es clock) (k v:Value):Ev (es.push ⟨k,v,clock⟩) (clock+1):=by
 refine⟨fun x hx=>?_,?_⟩
 ·simp only[Array.toList_push,List.mem_append,List.mem_singleton]at hx
  rcases hx with hx|rfl
  ·have:=h.1 x hx;omega
  ·exact Nat.lt_succ_self _
 ·simp only[Array.toList_push,List.map_append,List.map_cons,List.map_nil]
  refine List.nodup_append.2 ⟨h.2,by simp,fun a ha b hb=>?_⟩
  obtain⟨x,hx,rfl⟩:=List.mem_map.1 ha
  simp at hb;subst hb
  have:=h.1 x hx;omega
theorem C3 {es:Array MapEntry} {clock:Nat} (h:Ev es clock) (j:Nat) (k v:Value):Ev (es.modify j fun e=>{e with key:=k,val:=v}) clock:=by
 have e:(es.modify j fun e=>{e with key:=k,val:=v}).toList.map (·.born)=es.toList.map (·.born):=by
  refine List.ext_getElem? fun i=>?_
  simp only[List.getElem?_map,Array.getElem?_toList,Array.getElem?_modify]
  split
  ·cases es[i]? <;>rfl
  ·rfl
 refine⟨fun x hx=>?_,by rw[e];exact h.2⟩
 have hb:x.born∈(es.modify j fun e=>{e with key:=k,val:=v}).toList.map (·.born):=List.mem_map_of_mem hx
 rw[e]at hb
 obtain⟨y,hy,hyb⟩:=List.mem_map.1 hb
 rw[<-hyb];exact h.1 y hy
theorem FU {es:Array MapEntry} {clock:Nat} (h:Ev es clock) {j:Nat} (hj:j<es.size):Ev (es.eraseIdxIfInBounds j) clock:=by
 have e:(es.eraseIdxIfInBounds j).toList=es.toList.eraseIdx j:=by
  unfold Array.eraseIdxIfInBounds
  rw[dif_pos hj,Array.toList_eraseIdx]
 refine⟨fun x hx=>h.1 x ((List.eraseIdx_sublist _ _).subset (by rwa [e]at hx)),?_⟩
 rw[e]
 exact((List.eraseIdx_sublist es.toList j).map (·.born)).nodup h.2
theorem zE {k y:AV} (h1:k.cells.all AV.cell=true) (h2:y.cell=true):∀a∈k.cells++[y],a.cell=true:=fun a ha=>by
 rcases List.mem_append.1 ha with ha|ha
 ·exact List.all_eq_true.1 h1 a ha
 ·rw[List.mem_singleton.1 ha];exact h2
theorem L0 {t:TypeId} {x k y:Operand} {m:MK} {z:K} {x' k' y':O} {g':Rows} (S:fW P hs D ι g w) (E:bV P w D ι env a) (ho:o.op=.mapUpdate t x k y∨o.op=.insert t x k y) (hc:qV P t=some (m,z)) (hx:cO P x=some x') (hk:cO P k=some k') (hy:cO P y=some y')
  (hv:bx (.set m) [cV env x',cV env k',cV env y'] g=some g'):Bi P hs a o w D ι id .undef g':=by
 obtain⟨kt,e,i,zv,ht,hi,tY,QU,hK⟩:=pU hc
 simp only[bx,Option.bind_eq_some_iff]at hv
 obtain⟨p,hp,fi,DQ,hv⟩:=hv
 split at hv
 ·rename_i hcond
  obtain⟨hw,hyc,_⟩:=hcond
  simp only[Option.some.injEq]at hv;subst hv
  obtain⟨B,hu,hg,hB,sV,es,clock,hb,eW,hlen,hM⟩:=yf S (db E hx) hp
  have rk:=db E hk
  have ry:=db E hy
  obtain⟨I1,res,hf,hF⟩:=tL (B:=B) hK rk eW hM DQ
  obtain⟨k1,k2,k3,k4⟩:=uk DQ
  obtain⟨B',dK,R,_⟩:=S.row p.1 p.2 hg
  rw[hB]at dK;injection dK with dK;subst dK
  obtain⟨pk1,pk2⟩:=H8 (y:=cV env y') k1 k2
  have gi:(getObj B.b).run P w=.ok (.map es clock) w:=MapKept.run_getObj_map hb
  rcases hF with⟨rfl,rfl⟩|⟨j,en,rfl,he,rfl⟩
  ·have mN:=S.F5 (ob:=.map (es.push ⟨a.eval k,a.eval y,clock⟩) (clock+1)) (r':={p.2 with rows:=dz p.2.rows ((cV env k').cells++[cV env y']) none}) hg hw hB fun hr ki=>⟨R.sz,fun cs dp=>?_,fun u7=>(by rw[sV]at u7;cases u7),fun m' zQ=>?_,fun c hc=>(by rw[sV]at hc;cases hc)⟩
   ·refine⟨undef,_,ι,.inr ⟨?_,rfl⟩,mN.2,mN.1,da.undef,fun _ _=>rfl⟩
    rcases ho with ho|ho<;>
    ·simp only[execOp,ho,Instr.mapUpdate,hu,Sem.run_bind,run_underlying ht,Result.andThen_ok,gi,I1,hf,MapKept.run_setObj_map _ hb,Sem.run_pure]
   ·rcases List.mem_append.1 dp with h|h
    ·exact R.flat cs h
    ·rw[List.mem_singleton.1 h];exact zE k3 hyc
   ·rw[sV]at zQ;simp only[Option.some.injEq,BK.map.injEq]at zQ;subst zQ
    refine⟨(R.map m sV).1,_,_,ki,by simp[dz,eW],⟨fun cs dp=>?_,Ir hlen.2 _ _⟩,fun q cs hq=>?_⟩
    ·rcases List.mem_append.1 dp with h|h
     ·exact hlen.1 cs h
     ·rw[List.mem_singleton.1 h];simp[k2]
    ·rcases Nat.lt_or_ge q p.2.rows.length with dJ|pg
     ·simp only[dz]at hq
      rw[List.getElem?_append_left dJ]at hq
      obtain⟨en,kv,vv,q1,q2,q3,q4,q5⟩:=hM q cs hq
      exact⟨en,kv,vv,by rw[Array.getElem?_push_lt (by omega)];rw[Array.getElem?_eq_getElem (by omega)]at q1;simpa using q1,q2,q3,hr _ _ q4,hr _ _ q5⟩
     ·simp only[dz]at hq
      rw[List.getElem?_append_right pg]at hq
      have hq0:q=p.2.rows.length:=by
       have:=(List.getElem?_eq_some_iff.1 hq).1
       simp at this;omega
      subst hq0
      simp at hq;subst hq
      exact⟨⟨a.eval k,a.eval y,clock⟩,_,_,by rw[<-eW];simp,pk1,pk2,hr _ _ rk,hr _ _ ry⟩
  ·simp only[Nat.zero_add]at k4 DQ hf ⊢
   obtain⟨NR,_,JF,heq⟩:=Av k4
   simp only[Nat.sub_zero]at JF
   obtain⟨RI,kv,vv,q1,q2,_,q4,_⟩:=hM j NR JF
   have Ho:RI=en:=by
    have h1:es.toList[j]? =some RI:=by simpa using q1
    rw[he]at h1;injection h1 with h1;exact h1.symm
   subst Ho
   have dL:=stays (w:=w) hK k1 rk q2 q4 heq
   have mN:=S.F5 (ob:=.map (es.modify j fun e=>{e with key:=a.eval k,val:=a.eval y}) clock) (r':={p.2 with rows:=dz p.2.rows ((cV env k').cells++[cV env y']) (some j)}) hg hw hB fun hr ki=>⟨R.sz,fun cs dp=>?_,fun u7=>(by rw[sV]at u7;cases u7),fun m' zQ=>?_,fun c hc=>(by rw[sV]at hc;cases hc)⟩
   ·refine⟨undef,_,ι,.inr ⟨?_,rfl⟩,mN.2,mN.1,da.undef,fun _ _=>rfl⟩
    rcases ho with ho|ho<;>
    ·simp only[execOp,ho,Instr.mapUpdate,hu,Sem.run_bind,run_underlying ht,Result.andThen_ok,gi,I1,hf,q1,Option.map_some,Option.getD_some,dL,MapKept.run_setObj_map _ hb,Sem.run_pure]
   ·rcases List.mem_or_eq_of_mem_set dp with h|h
    ·exact R.flat cs h
    ·rw[h];exact zE k3 hyc
   ·rw[sV]at zQ;simp only[Option.some.injEq,BK.map.injEq]at zQ;subst zQ
    have gq:=(List.getElem?_eq_some_iff.1 JF).1
    refine⟨(R.map m sV).1,_,_,ki,by simp[dz,eW],⟨fun cs dp=>?_,C3 hlen.2 _ _ _⟩,fun q cs hq=>?_⟩
    ·rcases List.mem_or_eq_of_mem_set dp with h|h
     ·exact hlen.1 cs h
     ·rw[h];simp[k2]
    ·simp only[dz,List.getElem?_set]at hq
     split at hq
     ·rename_i NY
      subst NY
      (try rw[if_pos gq]at hq)
      injection hq with hq;subst hq
      exact⟨{RI with key:=a.eval k,val:=a.eval y},_,_,by rw[Array.getElem?_modify];simp[q1],pk1,pk2,hr _ _ rk,hr _ _ ry⟩
     ·rename_i NY
      obtain⟨en,kv,vv,q1,q2,q3,q4,q5⟩:=hM q cs hq
      exact⟨en,kv,vv,by rw[Array.getElem?_modify];simp[NY,q1],q2,q3,hr _ _ q4,hr _ _ q5⟩
 ·cases hv
theorem LZ {t t':TypeId} {x k:Operand} {m:MK} {z:K} {x' k':O} {g':Rows} (S:fW P hs D ι g w) (E:bV P w D ι env a) (ho:o.op=.call {callee:=.builtin .delete,args:= #[x,k],argTypes:= #[t,t']}) (hc:qV P t=some (m,z)) (hx:cO P x=some x') (hk:cO P k=some k')
  (hv:bx (.del m) [cV env x',cV env k'] g=some g'):Bi P hs a o w D ι id .undef g':=by
 obtain⟨kt,e,i,zv,ht,hi,tY,QU,hK⟩:=pU hc
 simp only[bx,Option.bind_eq_some_iff]at hv
 obtain⟨p,hp,fi,DQ,hv⟩:=hv
 split at hv
 ·rename_i hw
  simp only[Option.some.injEq]at hv;subst hv
  obtain⟨B,hu,hg,hB,sV,es,clock,hb,eW,hlen,hM⟩:=yf S (db E hx) hp
  have rk:=db E hk
  obtain⟨I1,res,hf,hF⟩:=tL (B:=B) hK rk eW hM DQ
  obtain⟨k1,k2,k3,k4⟩:=uk DQ
  obtain⟨B',dK,R,_⟩:=S.row p.1 p.2 hg
  rw[hB]at dK;injection dK with dK;subst dK
  have gi:(getObj B.b).run P w=.ok (.map es clock) w:=MapKept.run_getObj_map hb
  have go:∀ob,(Builtin.delete_ #[t,t'] o.type #[a.eval x,a.eval k]).run P w=.ok (.tuple #[]) {w with heap:=w.heap.setIfInBounds B.b ob}->(execOp a.eval o).run P w=.ok (.value undef) {w with heap:=w.heap.setIfInBounds B.b ob}:=fun ob h=>by
   simp only[execOp,ho,resolve,Sem.run_bind,Sem.run_pure,Result.andThen_ok,invoke,builtin,Array.map]
   simp[h,undef]
  rcases hF with⟨rfl,rfl⟩|⟨j,en,rfl,he,rfl⟩
  ·have mN:=S.F5 (ob:=.map es clock) (r':={p.2 with rows:=dF p.2.rows none}) hg hw hB fun hr ki=>⟨R.sz,R.flat,fun u7=>(by rw[sV]at u7;cases u7),fun m' zQ=>?_,fun c hc=>(by rw[sV]at hc;cases hc)⟩
   ·refine⟨undef,_,ι,.inl (go _ ?_),mN.2,mN.1,da.undef,fun _ _=>rfl⟩
    simp[Builtin.delete_,hu,run_underlying ht,gi,I1,hf,MapKept.run_setObj_map _ hb]
   ·rw[sV]at zQ;simp only[Option.some.injEq,BK.map.injEq]at zQ;subst zQ
    exact⟨(R.map m sV).1,_,_,ki,eW,hlen,fun q cs hq=>by
     obtain⟨en,kv,vv,q1,q2,q3,q4,q5⟩:=hM q cs hq
     exact⟨en,kv,vv,q1,q2,q3,hr _ _ q4,hr _ _ q5⟩⟩
  ·simp only[Nat.zero_add]at hf ⊢
   have gq:j<es.size:=by have:=(List.getElem?_eq_some_iff.1 he).1;simpa using this
   have mN:=S.F5 (ob:=.map (es.eraseIdxIfInBounds j) clock) (r':={p.2 with rows:=dF p.2.rows (some j)}) hg hw hB fun hr ki=>⟨R.sz,fun cs dp=>R.flat cs (List.mem_of_mem_eraseIdx dp),fun u7=>(by rw[sV]at u7;cases u7),fun m' zQ=>?_,fun c hc=>(by rw[sV]at hc;cases hc)⟩
   ·refine⟨undef,_,ι,.inl (go _ ?_),mN.2,mN.1,da.undef,fun _ _=>rfl⟩
    simp[Builtin.delete_,hu,run_underlying ht,gi,I1,hf,MapKept.run_setObj_map _ hb]
   ·rw[sV]at zQ;simp only[Option.some.injEq,BK.map.injEq]at zQ;subst zQ
    have he2:∀q,(es.eraseIdxIfInBounds j)[q]? =(es.toList.eraseIdx j)[q]? :=fun q=>by
     unfold Array.eraseIdxIfInBounds
     rw[dif_pos gq,<-Array.getElem?_toList,Array.toList_eraseIdx]
    refine⟨(R.map m sV).1,_,_,ki,by simp[dF,Array.eraseIdxIfInBounds,gq,List.length_eraseIdx,<-eW],⟨fun cs dp=>hlen.1 cs (List.mem_of_mem_eraseIdx dp),FU hlen.2 gq⟩,fun q cs hq=>?_⟩
    simp only[dF,List.getElem?_eraseIdx]at hq
    split at hq
    ·rename_i dJ
     obtain⟨en,kv,vv,q1,q2,q3,q4,q5⟩:=hM q cs hq
     exact⟨en,kv,vv,by rw[he2,List.getElem?_eraseIdx,if_pos dJ];simpa using q1,q2,q3,hr _ _ q4,hr _ _ q5⟩
    ·rename_i dJ
     obtain⟨en,kv,vv,q1,q2,q3,q4,q5⟩:=hM (q+1) cs hq
     exact⟨en,kv,vv,by rw[he2,List.getElem?_eraseIdx,if_neg dJ];simpa using q1,q2,q3,hr _ _ q4,hr _ _ q5⟩
 ·cases hv
end
end Go.Proofs.YtgoljkjaameagaaGreat.V
