/- A small language in which the program's functions are read by value: its values, its operations, its code, and how the program's code is brought into it. -/
import Derived.WalkKit
import Derived.WalkSpells
import Derived.WalkLawsBesides
import Derived.Lib.Hide
import Derived.Great.BuildSlice
import Derived.Conc.LoneCalls
import Derived.MapKept
import Derived.WideKeyRuns
set_option linter.unusedVariables false
set_option linter.unusedSimpArgs false
set_option maxRecDepth 100000
set_option maxHeartbeats 16000000
namespace Go.Proofs.YtihgaadadaekmaaGreat.V
open Go.RowKit
structure Id where
  site:Nat
  bY:Nat
  deriving DecidableEq,Repr
inductive TS where
  |tI|tB|tS
  deriving Repr,DecidableEq
structure MK where
  ka:Bool
  ts:List TS
  deriving Repr,DecidableEq
inductive AV where
  |int (k:IntKind) (n:Int)
  |bool (b:Bool)
  |str (s:ByteArray)
  |br|gy|iY
  |sl (rows:List (List AV))
  |own (id:Id) (off len:Nat)
  |ptr (id:Id) (i off:Nat)
  |de (cs:List AV)
  |agg (cs:List AV)
  |gE (vs:List AV)
  |fn (f:Nat) (cD:List AV)
  |map (id:Id) (m:MK)
  |jh
  |u4 (f:Nat) (first:List AV)
  |rf (id:Id)
  deriving Inhabited
def AV.undef:AV:=.gE []
def AV.cell:AV->Bool
  | .agg _| .gE _=>false
  |_=>true
def AV.cells:AV->List AV
  | .agg cs=>cs
  |v=>[v]
inductive K where
  |int (k:IntKind) (n:Int)
  |bool (b:Bool)
  |str (l:List UInt8)
  |br|gy|iY|jh
  deriving Repr,DecidableEq
def K.val:K->Value
  | .int k n=>.int k n
  | .bool b=>.bool b
  | .str l=>.string ⟨l.toArray⟩
  | .br=>.slice none 0 0
  | .gy=>.pointer none
  | .iY=>.nilFunc
  | .jh=>.map none
def K.av:K->AV
  | .int k n=>.int k n
  | .bool b=>.bool b
  | .str l=>.str ⟨l.toArray⟩
  | .br=>.br
  | .gy=>.gy
  | .iY=>.iY
  | .jh=>.jh
def EM:Value->Option K
  | .int k n=>some (.int k n)
  | .bool b=>some (.bool b)
  | .string s=>some (.str s.data.toList)
  | .slice none 0 0=>some .br
  | .pointer none=>some .gy
  | .nilFunc=>some .iY
  | .map none=>some .jh
  |_=>none
inductive O where
  |t (n:Nat)
  |k (c:K)
  |ka (cs:List K)
  |f (n:Nat)
  deriving Repr,DecidableEq
inductive MQ where
  |new (m:MK)
  |look (m:MK) (ok:Bool) (zero:K)
  |len (m:MK)
  deriving Repr,DecidableEq
inductive MW where
  |set (m:MK)
  |del (m:MK)
  deriving Repr,DecidableEq
inductive fP where
  |cj (x:O)
  |pick (c a b:O)
  |new (zero:List K)
  |box (x:O)
  |build (zero:List K) (parts:List (Nat×Nat×O))
  |kd (sz len:Nat) (parts:List O)
  |load (agg:Bool) (n:Nat) (a:O)
  |store (n:Nat) (a x:O)
  |xp (x:O)
  |bin (op:BinOp) (k:IntKind) (x y:O)
  |sh (left:Bool) (x y:O)
  |IX (op:BinOp) (x y:O)
  |LI (neg:Bool) (t:TS) (x y:O)
  |P4 (neg:Bool) (ts:List TS) (x y:O)
  |Om (neg JF:Bool) (x:O)
  |P5 (neg:Bool) (x:O)
  |not (x:O)
  |neg (x:O)
  |conv (k:IntKind) (x:O)
  |CU (x:O)
  |slice (sz:Nat) (x:O) (lo hi:Option O)
  |yl (x:O) (lo hi:Option O)
  |ee (off:Nat) (x:O)
  |field (agg:Bool) (off n:Nat) (x:O)
  |dy (sz:Nat) (x i:O)
  |Jz (len sz:Nat) (x i:O)
  |JB (x i:O)
  |fK (agg:Bool) (len n:Nat) (x i:O)
  |extract (i:Nat) (x:O)
  |len (x:O)
  |JK (x:O)
  |append (sz:Nat) (x y:O)
  |copy (sz:Nat) (x y:O)
  |clear (zero:List K) (x:O)
  |JU (f:Nat) (cD:List O)
  |JV (f:Nat) (first:List O)
  |jz (zero:List K) (len cap:O)
  |call (f:Nat) (args:List O)
  |rW (x:O) (args:List O)
  |mq (q:MQ) (xs:List O)
  |mw (q:MW) (xs:List O)
  |Ho (x:O)
  |He (x:O)
  |snd (x y:O)
  |MR (x:O)
  |bad
  deriving Repr,DecidableEq
structure bj where
  dst:Option Nat
  op:fP
  guard:Option (Nat×Bool)
  site:Nat
  hid:List Nat
  deriving Repr,DecidableEq
def q (d:Nat) (op:fP) (s:Nat):bj:=⟨some d,op,none,s,[]⟩
inductive VC where
  |skip
  |dG (draw:Bool) (ops:List bj)
  |seq (a b:VC)
  |cond (c:O) (x y:VC)
  |block (id:Nat) (c:VC)
  |loop (c:VC)
  |exit (id:Nat)
  |ret
  |one (o:bj) (c:VC)
  |both (a b:VC)
  |loc (t s:Nat) (y:O) (c:VC)
  |LC (ops:List bj)
  deriving Repr,DecidableEq
inductive oB where
  |tmp (t:Nat)
  |cell (agg:Bool) (n:Nat) (t:Nat)
  deriving Repr,DecidableEq
structure vV where
  ntmps:Nat
  wT:Nat
  body:VC
  res:List oB
  deriving Repr,DecidableEq
def ft (P:Program) (f:Nat):Bool:=
  match P.funcs[f]? with
  |some fn=>fn.body.isSome&& !(fn.name== "runtime.NumGoroutine")
  |none=>false
def cO (P:Program):Operand->Option O
  | .tmp t=>some (.t t)
  | .const (.agg cs)=>(cs.toList.mapM EM).map O.ka
  | .const v=>(EM v).map O.k
  | .global _=>none
  | .func f=>if ft P f then some (.f f)else none
def jj (P:Program) (t:TypeId):Option (List K):=
  match P.info? t with
  |some i=>match i.zero with
    |some v=>if v.cells.size=i.size then v.cells.toList.mapM EM else none
    |none=>none
  |none=>none
def dK (P:Program) (t:TypeId):Option Nat:=(P.info? t).map (·.size)
def mV (P:Program) (t:TypeId):Option Bool:=
  match P.underlying t with
  |some (.struct _)|some (.array _ _)=>some true
  |some _=>some false
  |none=>none
inductive QN where
  |sc (t:TS)|ag (ts:List TS)
  deriving Repr,DecidableEq
def eZ (P:Program) (t:TypeId):Option TS:=
  match P.underlying t with
  |some .bool=>some .tB
  |some (.int _)=>some .tI
  |some .string=>some .tS
  |_=>none
def Bi (P:Program) (inner:List Field->Option (List TS)):Nat->List Field->Option (List TS)
  |_,[]=>some []
  |off,f::r=>
    if f.offset=off/\f.name≠ "_" then
      match eZ P f.type with
      |some t=>if mV P f.type=some false then(Bi P inner (off+1) r).map (t::·)else none
      |none=>match P.underlying f.type with
        |some (.struct fs)=>if !P.stoodInHeld f.type then match inner fs.toList with
          |some ts=>if dK P f.type=some ts.length/\ts≠[]then(Bi P inner (off+ts.length) r).map (ts++·)else none
          |none=>none else none
        |_=>none
    else none
def ef (P:Program):Nat->Nat->List Field->Option (List TS)
  |0,_,[]=>some []
  |0,_,_::_=>none
  |d+1,off,fs=>Bi P (ef P d 0) off fs
def QV (P:Program) (t:TypeId):Option QN:=
  match eZ P t with
  |some s=>some (.sc s)
  |none=>match P.underlying t with
    |some (.struct fs)=>if !P.stoodInHeld t&& !P.eqGuardType P.depth t then(ef P 4 0 fs.toList).map QN.ag else none
    |_=>none
def qW (P:Program) (fs:Array Field):List (Nat×O)->Option (List (Nat×Nat×O))
  |[]=>some []
  |(i,x)::r=>match fs[i]? with
    |some f=>match dK P f.type with
      |some n=>(qW P fs r).map ((f.offset,n,x)::·)
      |none=>none
    |none=>none
def q9 (P:Program) (ps:Array (Nat×Operand)):Option (List (Nat×O)):=ps.toList.mapM fun(i,x)=>(cO P x).map (i,·)
def pR (P:Program):Option Operand->Option (Option O)
  |none=>some none
  |some x=>(cO P x).map some
def qY (P:Program) (neg:Bool) (t:TypeId) (x y:Operand):Option fP:=
  match y with
  | .const (.slice none 0 0)=>match P.underlying t with
    |some (.slice _)=>(cO P x).map (fP.Om neg false)
    |_=>none
  | .const .nilFunc=>match P.underlying t with
    |some (.func ..)=>(cO P x).map (fP.Om neg true)
    |_=>none
  | .const (.pointer none)=>match P.underlying t with
    |some (.pointer _)=>(cO P x).map (fP.P5 neg)
    |_=>none
  |_=>match QV P t with
    |some (.sc s)=>do pure (.LI neg s (<-cO P x) (<-cO P y))
    |some (.ag ts)=>do pure (.P4 neg ts (<-cO P x) (<-cO P y))
    |_=>none
def tt (P:Program) (op:BinOp) (t:TypeId) (x y:Operand):Option fP:=
  match op with
  | .eql=>qY P false t x y
  | .neq=>qY P true t x y
  | .shl=>do pure (.sh true (<-cO P x) (<-cO P y))
  | .shr=>do pure (.sh false (<-cO P x) (<-cO P y))
  |op=>match P.underlying t with
    |some (.int k)=>do pure (.bin op k (<-cO P x) (<-cO P y))
    |some .string=>do pure (.IX op (<-cO P x) (<-cO P y))
    |_=>none
def qZ (P:Program) (t:TypeId):Option (MK×K):=
  match P.underlying t with
  |some (.map k e)=>match mV P e,(P.info? e).bind (·.zero),eZ P k,P.underlying k with
    |some false,some zv,some s,_=>(EM zv).map fun z=>(⟨false,[s]⟩,z)
    |some false,some zv,none,some (.struct fs)=>match ef P 4 0 fs.toList,EM zv with
      |some ts,some z=>if !P.stoodInHeld k/\fs.toList.all (fun f=>(eZ P f.type).isSome)then some (⟨true,ts⟩,z)else none
      |_,_=>none
    |_,_,_,_=>none
  |_=>none
def mK (P:Program) (c:Call):Option fP:=
  match c.callee with
  | .builtin .len=>match c.args.toList,c.argTypes.toList with
    |[x],[t]=>match P.underlying t with
      |some (.slice _)=>(cO P x).map fP.len
      |some .string=>(cO P x).map fP.JK
      |some (.map _ _)=>match qZ P t,cO P x with
        |some (m,_),some x=>some (.mq (.len m) [x])
        |_,_=>none
      |some (.chan _ _)=>(cO P x).map fP.He
      |_=>none
    |_,_=>none
  | .builtin .append=>match c.args.toList,c.argTypes.toList with
    |[x,y],[t,u]=>match P.underlying t with
      |some (.slice e)=>match dK P e,jj P e,P.info? e with
        |some (sz+1),some _,some i=>if i.bytes<=32768/\t=u then do pure (.append (sz+1) (<-cO P x) (<-cO P y))else none
        |_,_,_=>none
      |_=>none
    |_,_=>none
  | .builtin .clear=>match c.args.toList,c.argTypes.toList with
    |[x],[t]=>match P.underlying t with
      |some (.slice e)=>match dK P e,jj P e with
        |some (_+1),some z=>(cO P x).map (fP.clear z)
        |_,_=>none
      |_=>none
    |_,_=>none
  | .value (.func f)=>if ft P f then(c.args.toList.mapM (cO P)).map (fP.call f)else none
  | .value (.tmp t)=>(c.args.toList.mapM (cO P)).map (fP.rW (.t t))
  | .builtin .delete=>match c.args.toList,c.argTypes.toList with
    |[x,k],[t,_]=>match qZ P t,cO P x,cO P k with
      |some (m,_),some x,some k=>some (.mw (.del m) [x,k])
      |_,_,_=>none
    |_,_=>none
  | .builtin .copy=>match c.args.toList,c.argTypes.toList with
    |[x,y],[t,_]=>match P.underlying t with
      |some (.slice e)=>match dK P e with
        |some (sz+1)=>do pure (.copy (sz+1) (<-cO P x) (<-cO P y))
        |_=>none
      |_=>none
    |_,_=>none
  |_=>none
def pC (P:Program) (o:Op):Option fP:=
  match o with
  | .move x| .assign x=>(cO P x).map fP.cj
  | .pick c a b=>do pure (.pick (<-cO P c) (<-cO P a) (<-cO P b))
  | .alloc e=>(jj P e).map fP.new
  | .box _ x=>(cO P x).map fP.box
  | .load t a=>do pure (.load (<-mV P t) (<-dK P t) (<-cO P a))
  | .store t a x=>do pure (.store (<-dK P t) (<-cO P a) (<-cO P x))
  | .nilCheck x=>(cO P x).map fP.xp
  | .binOp op t x y _=>tt P op t x y
  | .unOp .not _ x=>(cO P x).map fP.not
  | .unOp .neg _ x=>(cO P x).map fP.neg
  | .convert s d x=>match P.underlying s,P.underlying d with
    |some (.int _),some (.int k)=>(cO P x).map (fP.conv k)
    |some .string,some .string=>(cO P x).map fP.CU
    |_,_=>none
  | .slice t x lo hi none=>match P.underlying t with
    |some (.slice e)=>do
      pure (.slice (<-dK P e) (<-cO P x) (<-pR P lo) (<-pR P hi))
    |some .string=>do pure (.yl (<-cO P x) (<-pR P lo) (<-pR P hi))
    |_=>none
  | .fieldAddr s x i=>match P.underlying s with
    |some (.struct fs)=>match fs[i]? with
      |some f=>match dK P f.type with
        |some (_+1)=>(cO P x).map (fP.ee f.offset)
        |_=>none
      |none=>none
    |_=>none
  | .field s x i=>match P.underlying s with
    |some (.struct fs)=>match fs[i]? with
      |some f=>do pure (.field (<-mV P f.type) f.offset (<-dK P f.type) (<-cO P x))
      |none=>none
    |_=>none
  | .indexAddr t x i=>match P.underlying t with
    |some (.slice e)=>match dK P e with
      |some (m+1)=>do pure (.dy (m+1) (<-cO P x) (<-cO P i))
      |_=>none
    |some (.array len e)=>match dK P e with
      |some (m+1)=>do pure (.Jz len (m+1) (<-cO P x) (<-cO P i))
      |_=>none
    |_=>none
  | .index t x i=>match P.underlying t with
    |some .string=>do pure (.JB (<-cO P x) (<-cO P i))
    |some (.array len e)=>do pure (.fK (<-mV P e) len (<-dK P e) (<-cO P x) (<-cO P i))
    |_=>none
  | .extract x i=>(cO P x).map (fP.extract i)
  | .build t ps=>match P.underlying t with
    |some (.struct fs)=>
      match jj P t,q9 P ps with
      |some z,some l=>
        if fs.all (fun f=>(P.info? f.type).isSome)then(qW P fs l).map (fP.build z)else none
      |_,_=>none
    |some (.array _ e)=>
      match jj P t,q9 P ps,dK P e with
      |some z,some l,some n=>some (.build z (l.map fun(i,x)=>(i*n,n,x)))
      |_,_,_=>none
    |_=>none
  | .buildSlice t len ps=>match P.underlying t with
    |some (.slice e)=>match dK P e,jj P e,q9 P ps with
      |some (sz+1),some _,some l=>
        if len*(sz+1)<=4096/\l.map (·.1)=List.range len then some (.kd (sz+1) len (l.map (·.2)))else none
      |_,_,_=>none
    |_=>none
  | .makeFunc (.func f) first cD=>
    if first= #[]/\ft P f then(cD.toList.mapM (cO P)).map (fP.JU f)else if cD= #[]/\ft P f then(first.toList.mapM (cO P)).map (fP.JV f)else none
  | .makeSlice t l c=>match P.underlying t with
    |some (.slice e)=>match dK P e,jj P e,P.info? e with
      |some (_+1),some z,some i=>if i.bytes<=32768 then do pure (.jz z (<-cO P l) (<-cO P c))else none
      |_,_,_=>none
    |_=>none
  | .call c=>mK P c
  | .makeChan t n=>match P.underlying t with
    |some (.chan _ e)=>match P.info? e with
      |some i=>if i.bytes<=32768 then(cO P n).map fP.Ho else none
      |none=>none
    |_=>none
  | .send x y=>do pure (.snd (<-cO P x) (<-cO P y))
  | .recv t x false=>match P.underlying t with
    |some (.chan _ e)=>match (P.info? e).bind (·.zero)with
      |some _=>(cO P x).map fP.MR
      |none=>none
    |_=>none
  | .makeMap t none=>match qZ P t with
    |some (m,_)=>some (.mq (.new m) [])
    |none=>none
  | .lookup t x k ok=>match qZ P t,cO P x,cO P k with
    |some (m,z),some x,some k=>some (.mq (.look m ok z) [x,k])
    |_,_,_=>none
  | .mapUpdate t x k v| .insert t x k v=>match qZ P t,cO P x,cO P k,cO P v with
    |some (m,_),some x,some k,some v=>some (.mw (.set m) [x,k,v])
    |_,_,_,_=>none
  | .makeInterface _ _=>some .bad
  | .panic _=>some .bad
  |_=>none
inductive QM where
  |pure|look|make|write
  deriving DecidableEq,Repr
def fP.cls:fP->QM
  | .new _| .box _| .kd .. | .jz .. | .mq (.new _) _| .Ho _=>.make
  | .load .. | .dy .. | .slice .. | .call .. | .rW .. | .mq .. | .He _=>.look
  | .store .. | .append .. | .copy .. | .clear .. | .mw .. | .snd .. | .MR _=>.write
  |_=>.pure
def clash:QM->QM->Bool
  | .pure,_|_,.pure=>false
  | .write,_|_,.write=>true
  |_,_=>false
def jf (ops:Array Oper):Array Nat:=Region.before ops
def po:fP->Bool:=fun o=>o.cls==.make||o.cls==.write
def fP.k8:fP->Bool
  | .call .. | .rW .. =>true
  |_=>false
def AU (ops:Array Oper) (o:Oper):Option (Option (Nat×Bool)):=
  match o.guard with
  |none=>some none
  |some (i,b)=>match (ops[i]?).bind (·.dst)with
    |some t=>some (some (t,b))
    |none=>none
def lx (P:Program) (ops:Array Oper) (nt site0:Nat) (draw mk:Bool) (bs:Array Nat) (hidden:List (Nat×Bool)) (j:Nat) (o:Oper):Option bj:=do
  let v <-pC P o.op
  let g <-AU ops o
  if (o.dst.all fun d=>decide (d<nt))then
    pure {dst:=o.dst,op:=v,guard:=g,site:=site0+j,hid:=if draw then(hidden.filter fun(i,m)=>m&& !(bs.getD j 0).testBit i&&(i !=j||mk&&v.k8)).map fun(i,_)=>site0+i else[]}
  else none
def allM {α:Type} (f:Nat->Oper->Option α):List Oper->Nat->Option (List α)
  |[],_=>some []
  |o::r,j=>do pure ((<-f j o)::(<-allM f r (j+1)))
def gm:O->List Nat
  | .t n=>[n]
  |_=>[]
def uq:Option O->List Nat
  |some x=>gm x
  |none=>[]
def fP.fU:fP->List Nat
  | .clear _ x| .cj x| .box x| .load _ _ x| .xp x| .Om _ _ x| .P5 _ x| .not x| .neg x| .conv _ x| .CU x| .ee _ x| .field _ _ _ x| .extract _ x| .len x| .JK x| .Ho x| .He x| .MR x=>gm x
  | .pick c a b=>gm c++gm a++gm b
  | .new _| .bad=>[]
  | .build _ ps=>ps.flatMap fun(_,_,x)=>gm x
  | .kd _ _ ps=>ps.flatMap gm
  | .store _ a x| .snd a x=>gm a++gm x
  | .bin _ _ x y| .sh _ x y| .IX _ x y| .LI _ _ x y| .P4 _ _ x y| .dy _ x y| .Jz _ _ x y| .JB x y| .fK _ _ _ x y| .append _ x y| .copy _ x y| .jz _ x y=>gm x++gm y
  | .slice _ x lo hi| .yl x lo hi=>gm x++uq lo++uq hi
  | .JU _ l| .JV _ l| .call _ l| .mq _ l| .mw _ l=>l.flatMap gm
  | .rW x l=>gm x++l.flatMap gm
def bj.fU (v:bj):List Nat:=v.op.fU++(match v.guard with|some (t,_)=>[t]|none=>[])
def rN (x y:bj):Bool:=
  (match x.dst with
   |some d=> !y.fU.contains d&&y.dst !=some d
   |none=>true)&&
  (match y.dst with
   |some d=> !x.fU.contains d
   |none=>true)
def bj.makes (v:bj):Bool:=po v.op||v.op.k8&&v.hid.contains v.site
def C4 (x y:bj):Bool:=
  rN x y&& !clash x.op.cls y.op.cls&&(!x.makes||y.hid.contains x.site)&&(!y.makes||x.hid.contains y.site)&&x.site !=y.site
def CX (ops:Array Oper):Bool:=ops.toList.zipIdx.all fun(o,j)=>o.after.all fun e=> !Region.binds .any e||decide (e.on<j)
def nA (ops:Array Oper) (vl:List bj) (bs:Array Nat):Bool:=
  CX ops&&vl.zipIdx.all fun(y,j)=>vl.zipIdx.all fun(x,i)=> !(decide (i<j))||(bs.getD j 0).testBit i||C4 x y
def pS (P:Program) (nt site0:Nat) (ops:Array Oper) (draw mk:Bool):Option (List bj):=
  let bs:=if draw then jf ops else #[]
  let hidden:=if draw then ops.toList.zipIdx.map fun(o,i)=>(i,((pC P o.op).map fun v=>po v||mk&&v.k8).getD false)else[]
  match allM (lx P ops nt site0 draw mk bs hidden) ops.toList 0 with
  |some vl=>if !draw||nA ops vl bs then some vl else none
  |none=>none
def kr (v:bj):Bool:= !v.op.k8&&v.op.cls !=.write
def wq (x y:bj):Bool:=rN x y&&x.op.cls==.pure||C4 x y&&kr x&&kr y
def pb (ops:Array Oper) (vl:List bj) (bs:Array Nat) (listed:Array Bool) (i:Nat):Bool:=
  match vl[i]? with
  |some x=>(List.range ops.size).all fun j=>listed.getD j false||j==i||(bs.getD j 0).testBit i||(match vl[j]? with|some y=>wq x y|none=>false)
  |none=>false
def K4 (vl:List bj) (x:bj):Option (Nat×Nat×O):=
  match x.op,x.guard with
  | .append _ (.t t) y,none=>match vl.find? fun v=>v.dst==some t&&v.op.cls==.make with
    |some v=>some (t,v.site,y)
    |none=>none
  |_,_=>none
def C3 (s:Nat) (x y:bj):Bool:=rN x y&&kr y&&y.hid.contains s&&y.hid.contains x.site&&y.site !=s&&y.site !=x.site
def nC (ops:Array Oper) (vl:List bj) (bs:Array Nat) (listed:Array Bool) (i s:Nat):Bool:=
  match vl[i]? with
  |some x=>(List.range ops.size).all fun j=>listed.getD j false||j==i||(bs.getD j 0).testBit i||(match vl[j]? with|some y=>C3 s x y|none=>false)
  |none=>false
def MD (ops:Array Oper) (vl:List bj) (bs:Array Nat) (listed:Array Bool) (i:Nat):Option (Nat×Nat×Nat×O×bj):=
  match vl[i]? with
  |some x=>match K4 vl x with
    |some (t,s,y)=>if nC ops vl bs listed i s then some (i,t,s,y,x)else none
    |none=>none
  |none=>none
def y5:List VC->Option VC
  |[]=>none
  |[c]=>some c
  |c::r=>(y5 r).map (VC.both c)
def uO (ops:Array Oper) (vl:List bj) (bs:Array Nat):Nat->Array Bool->Option VC
  |0,listed=>
    match Region.ready .any ops listed with
    |[]=>some (.dG false [])
    |_::_=>none
  |n+1,listed=>
    match Region.ready .any ops listed with
    |[]=>some (.dG false [])
    |r::rs=>let rdy:=r::rs
      match rdy.find? (pb ops vl bs listed)with
      |some i=>match vl[i]? with
        |some vo=>(uO ops vl bs n (listed.setIfInBounds i true)).map (VC.one vo)
        |none=>none
      |none=>match rdy.findSome? (MD ops vl bs listed)with
        |some (i,t,s,y,vo)=>(uO ops vl bs n (listed.setIfInBounds i true)).map fun c=>VC.loc t s y (.one vo c)
        |none=>match rdy.mapM fun i=>(vl[i]?).bind fun vo=>(uO ops vl bs n (listed.setIfInBounds i true)).map (VC.one vo)with
          |some l=>y5 l
          |none=>none
def K2:Op->Bool
  | .send .. | .recv .. =>true
  |_=>false
def Od (P:Program) (nt site0:Nat) (ops:Array Oper) (draw:Bool) (mode:Nat):Option VC:=
  if draw&&mode==2 then
    match allM (lx P ops nt site0 true false (jf ops) (ops.toList.zipIdx.map fun(o,i)=>(i,((pC P o.op).map po).getD false))) ops.toList 0 with
    |some vl=>uO ops vl (jf ops) ops.size (Array.replicate ops.size false)
    |none=>none
  else if !draw&&ops.any (fun o=>K2 o.op)then(pS P nt site0 ops false false).map VC.LC
  else(pS P nt site0 ops draw (mode==1)).map (VC.dG draw)
def ui (md:List (Nat×Nat)) (id:Nat):Nat:=
  match md with
  |[]=>0
  |(i,m)::r=>if i=id then m else ui r id
def iD (P:Program) (md:List (Nat×Nat)) (nt tG:Nat):Code->Option VC
  | .skip=>some .skip
  | .region id ops draw=>Od P nt ((tG*1000+id)*1000) ops draw (ui md id)
  | .seq a b=>do pure (.seq (<-iD P md nt tG a) (<-iD P md nt tG b))
  | .cond c x y=>do pure (.cond (<-cO P c) (<-iD P md nt tG x) (<-iD P md nt tG y))
  | .block id c=>(iD P md nt tG c).map (VC.block id)
  | .loop c=>(iD P md nt tG c).map VC.loop
  | .exit id=>some (.exit id)
  | .ret=>some .ret
  | .label _=>some .skip
  | .scope c=>iD P md nt tG c
  |_=>none
def DY (P:Program) (r:ResultVar):Option oB:=
  match r with
  | .tmp t=>some (.tmp t)
  | .cell a t=>do pure (.cell (<-mV P t) (<-dK P t) a)
def sD (P:Program) (f:Nat) (md:List (Nat×Nat)):Option vV:=
  match P.funcs[f]? with
  |some fn=>match fn.body with
    |some c=>do
      let b <-iD P md fn.ntmps f c
      let r <-fn.results.toList.mapM (DY P)
      if fn.params.size+fn.nfree<=fn.ntmps then pure {ntmps:=fn.ntmps,wT:=fn.params.size+fn.nfree,body:=b,res:=r}else none
    |none=>none
  |none=>none
def l5 (P:Program) (f:Nat):Option vV:=sD P f []
theorem ab {P:Prop} (h:P:=by omega):P:=h
theorem bw {P:Prop} (h:P:=by(try dsimp only);omega):P:=h
structure Row where
 w:Bool
 sz:Nat
 rows:List (List AV)
abbrev Rows:=Id->Option Row
structure aw where
 get:Rows
 next:Nat
abbrev Env:=Nat->AV
def upd (env:Env):Option Nat->AV->Env
 |some d,v=>fun t=>if t=d then v else env t
 |none,_=>env
inductive Ex where
 |normal
 |exit (id:Nat)
 |ret
 deriving DecidableEq
def cE (env:Env):O->AV
 | .t n=>env n
 | .k c=>c.av
 | .ka cs=>.agg (cs.map K.av)
 | .f n=>.fn n []
def bS (g:Rows) (id:Id) (r:Row):Rows:=fun i=>if i=id then some r else g i
def bZ (g:Rows) (id:Id):Rows:=fun i=>if i=id then none else g i
def fV:List Nat->Nat->Rows->Rows
 |[],_,g=>g
 |h::t,n,g=>fun id=>if (h::t).contains id.site=true/\id.bY=n then none else g id
def ro (g:Rows):Rows:=fun id=>(g id).map fun r=>{r with w:=false}
def part (agg:Bool) (n:Nat) (cs:List AV):Option AV:=
 if agg then(if n<=cs.length then some (.agg (cs.take n))else none)else cs.head?
def rowAt (g:Rows) (id:Id) (i:Nat):Option (List AV):=(g id).bind (·.rows[i]?)
def ld (g:Rows) (agg:Bool) (n:Nat):AV->Option AV
 | .ptr id i off=>(rowAt g id i).bind fun cs=>part agg n (cs.drop off)
 | .de cs=>part agg n cs
 |_=>none
def dH:BinOp->IntKind->Int->Int->Option AV
 | .add,k,a,b=>some (.int k (k.wrap (a+b)))
 | .sub,k,a,b=>some (.int k (k.wrap (a-b)))
 | .mul,k,a,b=>some (.int k (k.wrap (a*b)))
 | .quo,k,a,b=>if b=0 then none else some (.int k (k.wrap (a.tdiv b)))
 | .rem,k,a,b=>if b=0 then none else some (.int k (a.tmod b))
 | .lss,_,a,b=>some (.bool (decide (a<b)))
 | .leq,_,a,b=>some (.bool (decide (a<=b)))
 | .gtr,_,a,b=>some (.bool (decide (b<a)))
 | .geq,_,a,b=>some (.bool (decide (b<=a)))
 | .and,k,a,b=>some (.int k (k.wrap (BitVec.ofInt k.bits a&&& BitVec.ofInt k.bits b).toNat))
 | .or,k,a,b=>some (.int k (k.wrap (BitVec.ofInt k.bits a|||BitVec.ofInt k.bits b).toNat))
 | .xor,k,a,b=>some (.int k (k.wrap (BitVec.ofInt k.bits a ^^^ BitVec.ofInt k.bits b).toNat))
 |_,_,_,_=>none
def ei (op:BinOp):AV->AV->Option AV
 | .int k a,.int k' b=>if k=k' then dH op k a b else none
 |_,_=>none
def ij (left:Bool):AV->AV->Option AV
 | .int k a,.int _ b=>if b<0 then none else some (.int k (if left then k.wrap (a*2 ^ min b.toNat k.bits)else a.fdiv (2 ^ min b.toNat k.bits)))
 |_,_=>none
def eA:BinOp->ByteArray->ByteArray->Option AV
 | .add,a,b=>if a.size+b.size<=9223372036854775807 then some (.str (a++b))else none
 | .lss,a,b=>some (.bool (Op.bytesLess a.toList b.toList))
 | .leq,a,b=>some (.bool (Op.bytesLess a.toList b.toList||(a.toList==b.toList)))
 | .gtr,a,b=>some (.bool !(Op.bytesLess a.toList b.toList||(a.toList==b.toList)))
 | .geq,a,b=>some (.bool !(Op.bytesLess a.toList b.toList))
 |_,_,_=>none
def dc (op:BinOp):AV->AV->Option AV
 | .str a,.str b=>eA op a b
 |_,_=>none
def fZ:TS->AV->AV->Option Bool
 | .tI,.int k a,.int k' b=>if k=k' then some (decide (a=b))else none
 | .tB,.bool a,.bool b=>some (a==b)
 | .tS,.str a,.str b=>some (decide (a=b))
 |_,_,_=>none
def e8:List TS->List AV->List AV->Option Bool
 |[],[],[]=>some true
 |t::ts,a::r,b::s=>match fZ t a b,e8 ts r s with
  |some x,some y=>some (x&&y)
  |_,_=>none
 |_,_,_=>none
def du (neg b:Bool):Bool:=if neg then !b else b
def cY:AV->Option Bool
 | .br=>some true
 | .own _ _ _=>some false
 | .sl (_::_)=>some false
 |_=>none
def cX:AV->Option Bool
 | .iY=>some true
 | .fn _ _=>some false
 |_=>none
def H7:AV->Option Bool
 | .gy=>some true
 | .ptr .. | .de _=>some false
 |_=>none
def ep (JF:Bool) (x:AV):Option Bool:=if JF then cX x else cY x
def dU (len:Nat):Option AV->Option Nat
 |none=>some len
 |some (.int _ n)=>if 0<=n/\n<=len then some n.toNat else none
 |_=>none
def dW (h:Nat):Option AV->Option Nat
 |none=>some 0
 |some (.int _ n)=>if 0<=n/\n<=h then some n.toNat else none
 |_=>none
def bQ (g:Rows) (sz:Nat) (x:AV) (lo hi:Option AV):Option AV:=
 match x with
 | .br=>(dU 0 hi).bind fun h=>(dW h lo).map fun _=>.br
 | .sl rows=>(dU rows.length hi).bind fun h=>(dW h lo).bind fun l=>if ∀cs∈rows,cs.length=sz then some (.sl ((rows.drop l).take (h-l)))else none
 | .own id off len=>(g id).bind fun r=>(dU len hi).bind fun h=>(dW h lo).bind fun l=>if r.sz=sz then some (.own id (off+l) (h-l))else none
 |_=>none
def bf (x:AV) (lo hi:Option AV):Option AV:=
 match x with
 | .str s=>(dU s.size hi).bind fun h=>(dW h lo).map fun l=>.str (s.extract l h)
 |_=>none
def CI (off:Nat):AV->Option AV
 | .ptr id i o=>some (.ptr id i (o+off))
 | .de cs=>some (.de (cs.drop off))
 |_=>none
def bP (g:Rows) (sz:Nat):AV->AV->Option AV
 | .sl rows,.int _ n=>if 0<=n then(rows[n.toNat]?).bind fun cs=>if cs.length=sz then some (.de cs)else none else none
 | .own id off len,.int _ n=>if 0<=n/\n<len then(g id).bind fun r=>if r.sz=sz then some (.ptr id (off+n.toNat) 0)else none else none
 |_,_=>none
def cQ (len sz:Nat):AV->AV->Option AV
 | .ptr id r off,.int _ n=>if 0<=n/\n<len then some (.ptr id r (off+n.toNat*sz))else none
 | .de cs,.int _ n=>if 0<=n/\n<len then some (.de (cs.drop (n.toNat*sz)))else none
 |_,_=>none
def cT:AV->AV->Option AV
 | .str s,.int _ n=>if 0<=n then(s[n.toNat]?).map fun b=>.int .u8 b.toNat else none
 |_,_=>none
def cR (agg:Bool) (len n:Nat):AV->AV->Option AV
 | .agg cs,.int _ i=>if 0<=i/\i<len then part agg n (cs.drop (i.toNat*n))else none
 |_,_=>none
def ek:AV->Option Nat
 | .br=>some 0
 | .sl rows=>some rows.length
 | .own _ _ n=>some n
 |_=>none
def er:AV->Option AV
 | .bool b=>some (.bool !b)
 |_=>none
def eo:AV->Option AV
 | .int k n=>some (.int k (k.wrap (0-n)))
 |_=>none
def cP (k:IntKind):AV->Option AV
 | .int _ n=>some (.int k (k.wrap n))
 |_=>none
def bU:AV->Option AV
 | .str s=>some (.str s)
 |_=>none
def cZ:AV->AV->AV->Option AV
 | .bool c,a,b=>some (if c then a else b)
 |_,_,_=>none
def ej:AV->Option AV
 | .ptr id i o=>some (.ptr id i o)
 | .de cs=>some (.de cs)
 |_=>none
def bL (agg:Bool) (off n:Nat):AV->Option AV
 | .agg cs=>if off+n<=cs.length then part agg n (cs.drop off)else none
 |_=>none
def aQ (i:Nat):AV->Option AV
 | .gE vs=>vs[i]?
 |_=>none
def cV:AV->Option AV
 | .str s=>some (.int .i64 s.size)
 |_=>none
def rowOf (sz:Nat) (v:AV):Option (List AV):=if v.cells.length=sz/\v.cells.all AV.cell then some v.cells else none
def cK (v:AV):Option (List AV):=if v.cells.all AV.cell then some v.cells else none
def rowsOf (sz:Nat):List AV->Option (List (List AV))
 |[]=>some []
 |v::r=>(rowOf sz v).bind fun c=>(rowsOf sz r).map fun cs=>c::cs
def cw:List AV->List (Nat×Nat×AV)->Option (List AV)
 |cs,[]=>some cs
 |cs,(off,n,v)::r=>if v.cells.length=n/\off+n<=cs.length/\v.cells.all AV.cell then cw (cs.take off++v.cells++cs.drop (off+n)) r else none
def dI:Nat:=16777216
def ig (zero:List K):AV->AV->Option (Nat×Row)
 | .int _ l,.int _ c=>if 0<=l/\l<=c/\c<=dI then some (l.toNat,⟨true,zero.length,List.replicate l.toNat (zero.map K.av)⟩)else none
 |_,_=>none
def m4:Nat:=1000000000
def MK.ks (m:MK):Nat:=m.ts.length
def MK.Co (m:MK):Nat:=m4+m.ks
def AV.isAgg:AV->Bool
 | .agg _=>true
 |_=>false
def gV (m:MK) (key:List AV):List (List AV)->Nat->Option (Option Nat)
 |[],_=>some none
 |r::l,i=>match e8 m.ts key (r.take m.ks)with
  |some true=>some (some i)
  |some false=>gV m key l (i+1)
  |none=>none
def dX (g:Rows) (m:MK):AV->Option (Id×Row)
 | .map id m'=>if m'=m then(g id).map fun r=>(id,r)else none
 |_=>none
def gN (m:MK) (k:AV) (rows:List (List AV)):Option (Option Nat):=if k.isAgg=m.ka/\k.cells.length=m.ks/\k.cells.all AV.cell then gV m k.cells rows 0 else none
def eh (m:MK) (z:K) (rows:List (List AV)):Option Nat->Option AV
 |some i=>(rows[i]?).bind fun cs=>cs[m.ks]?
 |none=>some z.av
def bD (q:MQ) (vs:List AV) (g:Rows) (id:Id):Option (AV×Option Row):=
 match q,vs with
 | .new m,[]=>some (.map id m,some ⟨true,m.Co,[]⟩)
 | .look m ok z,[x,k]=>(dX g m x).bind fun p=>(gN m k p.2.rows).bind fun fi=>(eh m z p.2.rows fi).map fun v=>(if ok then .gE [v,.bool fi.isSome]else v,none)
 | .len m,[x]=>(dX g m x).map fun p=>(.int .i64 p.2.rows.length,none)
 |_,_=>none
def pU:Nat:=2000000000
def cW:AV->Option Nat
 | .int _ n=>if 0<=n/\n<=1048576 then some n.toNat else none
 |_=>none
def cU (g:Rows):AV->Option AV
 | .rf id=>(g id).map fun r=>.int .i64 r.rows.length
 |_=>none
def ev (g:Rows):AV->AV->Option Rows
 | .rf id,v=>(g id).bind fun r=>if r.w/\pU+r.rows.length<r.sz/\v.cell then some (bS g id {r with rows:=r.rows++[[v]]})else none
 |_,_=>none
def eu (g:Rows):AV->Option (AV×Rows)
 | .rf id=>(g id).bind fun r=>match r.rows with
  |[v]::rest=>if r.w then some (v,bS g id {r with rows:=rest})else none
  |_=>none
 |_=>none
def dQ (rows:List (List AV)) (e:List AV):Option Nat->List (List AV)
 |some i=>rows.set i e
 |none=>rows++[e]
def dZ (rows:List (List AV)):Option Nat->List (List AV)
 |some i=>rows.eraseIdx i
 |none=>rows
def bF (q:MW) (vs:List AV) (g:Rows):Option Rows:=
 match q,vs with
 | .set m,[x,k,v]=>(dX g m x).bind fun p=>(gN m k p.2.rows).bind fun fi=>if p.2.w/\v.cell/\v.isAgg=false then some (bS g p.1 {p.2 with rows:=dQ p.2.rows (k.cells++[v]) fi})else none
 | .del m,[x,k]=>(dX g m x).bind fun p=>(gN m k p.2.rows).bind fun fi=>if p.2.w then some (bS g p.1 {p.2 with rows:=dZ p.2.rows fi})else none
 |_,_=>none
def eM (o:fP) (ρ:O->AV) (g:Rows) (id:Id):Option (AV×Option Row):=
 match o with
 | .cj x=>some (ρ x,none)
 | .pick c a b=>(cZ (ρ c) (ρ a) (ρ b)).map (·,none)
 | .new zero=>some (.ptr id 0 0,some ⟨true,zero.length,[zero.map K.av]⟩)
 | .box x=>(cK (ρ x)).map fun cs=>(.ptr id 0 0,some ⟨true,cs.length,[cs]⟩)
 | .build zero parts=>(cw (zero.map K.av) (parts.map fun(o,n,x)=>(o,n,ρ x))).map fun cs=>(.agg cs,none)
 | .kd sz len parts=>(rowsOf sz (parts.map ρ)).map fun rs=>(.own id 0 len,some ⟨true,sz,rs⟩)
 | .load agg n a=>(ld g agg n (ρ a)).map (·,none)
 | .xp x=>(ej (ρ x)).map (·,none)
 | .bin op _ x y=>(ei op (ρ x) (ρ y)).map (·,none)
 | .sh left x y=>(ij left (ρ x) (ρ y)).map (·,none)
 | .IX op x y=>(dc op (ρ x) (ρ y)).map (·,none)
 | .LI neg t x y=>(fZ t (ρ x) (ρ y)).map fun b=>(.bool (du neg b),none)
 | .P4 neg ts x y=>match ρ x,ρ y with
  | .agg xs,.agg ys=>(e8 ts xs ys).map fun b=>(.bool (du neg b),none)
  |_,_=>none
 | .Om neg JF x=>(ep JF (ρ x)).map fun b=>(.bool (du neg b),none)
 | .P5 neg x=>(H7 (ρ x)).map fun b=>(.bool (du neg b),none)
 | .not x=>(er (ρ x)).map (·,none)
 | .neg x=>(eo (ρ x)).map (·,none)
 | .conv k x=>(cP k (ρ x)).map (·,none)
 | .CU x=>(bU (ρ x)).map (·,none)
 | .slice sz x lo hi=>(bQ g sz (ρ x) (lo.map ρ) (hi.map ρ)).map (·,none)
 | .yl x lo hi=>(bf (ρ x) (lo.map ρ) (hi.map ρ)).map (·,none)
 | .ee off x=>(CI off (ρ x)).map (·,none)
 | .field agg off n x=>(bL agg off n (ρ x)).map (·,none)
 | .dy sz x i=>(bP g sz (ρ x) (ρ i)).map (·,none)
 | .Jz len sz x i=>(cQ len sz (ρ x) (ρ i)).map (·,none)
 | .JB x i=>(cT (ρ x) (ρ i)).map (·,none)
 | .fK agg len n x i=>(cR agg len n (ρ x) (ρ i)).map (·,none)
 | .extract i x=>(aQ i (ρ x)).map (·,none)
 | .len x=>(ek (ρ x)).map fun(n:Nat)=>(AV.int .i64 (n:Int),none)
 | .JK x=>(cV (ρ x)).map (·,none)
 | .JU f cD=>some (.fn f (cD.map ρ),none)
 | .JV f first=>some (.u4 f (first.map ρ),none)
 | .jz zero l c=>(ig zero (ρ l) (ρ c)).map fun(n,r)=>(.own id 0 n,some r)
 | .mq q xs=>bD q (xs.map ρ) g id
 | .Ho x=>(cW (ρ x)).map fun n=>(.rf id,some ⟨true,pU+n,[]⟩)
 | .He x=>(cU g (ρ x)).map (·,none)
 |_=>none
def bt (g:Rows):AV->Option (List (List AV))
 | .br=>some []
 | .sl rows=>some rows
 | .own id off len=>(g id).bind fun r=>if off+len<=r.rows.length then some ((r.rows.drop off).take len)else none
 |_=>none
def cH (cs:List AV) (off:Nat) (xs:List AV):List AV:=cs.take off++xs++cs.drop (off+xs.length)
def bR (g:Rows) (n:Nat) (v:AV):AV->Option Rows
 | .ptr id i off=>(g id).bind fun r=>(r.rows[i]?).bind fun cs=>
  if r.w/\v.cells.length=n/\v.cells.all AV.cell/\off+n<=cs.length then some (bS g id {r with rows:=r.rows.set i (cH cs off v.cells)})else none
 |_=>none
def bc (g:Rows) (id:Id) (sz:Nat) (x:AV) (ys:List (List AV)):Option (AV×Rows):=
 match x with
 | .br=>match ys with
  |[]=>some (.br,g)
  |y::r=>if (y::r).length<=dI/\(y::r).all (fun c=>c.length==sz&&c.all AV.cell)then some (.own id 0 (y::r).length,bS g id ⟨true,sz,y::r⟩)else none
 | .own i 0 len=>(g i).bind fun r=>
  if r.w/\r.sz=sz/\len=r.rows.length/\len+ys.length<=dI/\ys.all (fun c=>c.length==sz&&c.all AV.cell)then some (.own id 0 (len+ys.length),bS (bZ g i) id ⟨true,sz,r.rows++ys⟩)else none
 |_=>none
def DH (g:Rows) (sz:Nat) (x:AV) (ys:List (List AV)):Option (AV×Rows):=
 match x with
 | .own i off len=>(g i).bind fun r=>
  if r.w/\r.sz=sz/\off+len<=r.rows.length/\ys.all (fun c=>c.length==sz&&c.all AV.cell)then
   some (.int .i64 (min ys.length len:Nat),bS g i {r with rows:=r.rows.take off++ys.take (min ys.length len)++r.rows.drop (off+min ys.length len)})else none
 |_=>none
def bK (g:Rows) (zero:List K) (x:AV):Option Rows:=
 match x with
 | .br=>some g
 | .own i off len=>(g i).bind fun r=>
  if r.w/\r.sz=zero.length/\off+len<=r.rows.length then
   some (bS g i {r with rows:=r.rows.take off++List.replicate len (zero.map K.av)++r.rows.drop (off+len)})else none
 |_=>none
def fX (o:fP) (ρ:O->AV) (g:Rows) (id:Id):Option (AV×Rows):=
 match o with
 | .store n a x=>(bR g n (ρ x) (ρ a)).map fun g'=>(.undef,g')
 | .append sz x y=>(bt g (ρ y)).bind fun ys=>bc g id sz (ρ x) ys
 | .copy sz x y=>(bt g (ρ y)).bind fun ys=>DH g sz (ρ x) ys
 | .clear zero x=>(bK g zero (ρ x)).map fun g'=>(.undef,g')
 | .mw q xs=>(bF q (xs.map ρ) g).map fun g'=>(.undef,g')
 |_=>none
def tu:AV->List AV->Option (Nat×List AV)
 | .fn f cD,l=>some (f,l++cD)
 | .u4 f first,l=>some (f,first++l)
 |_,_=>none
abbrev fj:=Nat->List AV->aw->(AV->aw->Prop)->Prop
mutual
def fz (g:Rows):Nat->AV->Option AV
 |0,_=>none
 |n+1,a=>match a with
  | .own id off len=>match g id with
   |some r=>if r.w then(if off+len<=r.rows.length then(dM g n ((r.rows.drop off).take len)).map AV.sl else none)else none
   |none=>none
  | .ptr id i off=>match g id with
   |some r=>if r.w then(match r.rows[i]? with
    |some cs=>(cq g n (cs.drop off)).map AV.de
    |none=>none)else none
   |none=>none
  | .agg cs=>(cq g n cs).map AV.agg
  | .gE vs=>(cq g n vs).map AV.gE
  | .fn f cD=>if cD.all AV.cell then(cq g n cD).map (AV.fn f)else none
  | .map _ _| .u4 _ _| .rf _=>none
  |v=>some v
 termination_by n _=>(n,0)
def cq (g:Rows):Nat->List AV->Option (List AV)
 |n,[]=>some []
 |n,a::r=>match fz g n a with
  |some b=>(cq g n r).map (b::·)
  |none=>none
 termination_by n l=>(n,l.length+1)
def dM (g:Rows):Nat->List (List AV)->Option (List (List AV))
 |n,[]=>some []
 |n,c::r=>match cq g n c with
  |some b=>(dM g n r).map (b::·)
  |none=>none
 termination_by n l=>(n,(l.map (fun c=>c.length+2)).sum+1)
 decreasing_by all_goals simp_wf;try omega
end
mutual
def fu (g:Rows):Nat->AV->Option AV
 |0,_=>none
 |n+1,a=>match a with
  | .own id off len=>match g id with
   |some r=>if r.w then(if off+len<=r.rows.length then(fE g n ((r.rows.drop off).take len)).map AV.sl else none)else none
   |none=>none
  | .ptr id i off=>match g id with
   |some r=>if r.w then(match r.rows[i]? with
    |some cs=>(dB g n (cs.drop off)).map AV.de
    |none=>none)else none
   |none=>none
  | .agg cs=>(dB g n cs).map AV.agg
  | .gE vs=>(dB g n vs).map AV.gE
  | .int k m=>some (.int k m)
  | .bool b=>some (.bool b)
  | .str s=>some (.str s)
  | .br=>some .br
  | .gy=>some .gy
  | .iY=>some .iY
  | .jh=>some .jh
  |_=>none
 termination_by n _=>(n,0)
def dB (g:Rows):Nat->List AV->Option (List AV)
 |n,[]=>some []
 |n,a::r=>match fu g n a with
  |some b=>(dB g n r).map (b::·)
  |none=>none
 termination_by n l=>(n,l.length+1)
def fE (g:Rows):Nat->List (List AV)->Option (List (List AV))
 |n,[]=>some []
 |n,c::r=>match dB g n c with
  |some b=>(fE g n r).map (b::·)
  |none=>none
 termination_by n l=>(n,(l.map (fun c=>c.length+2)).sum+1)
 decreasing_by all_goals simp_wf;try omega
end
def dD (g:Rows):Rows:=fun id=>(g id).map fun r=>{r with w:=true}
def PC (X:fj) (f:Nat) (args:List AV) (σ:aw) (K:AV->Prop):Prop:=
 X f args ⟨ro σ.get,σ.next⟩ fun r σ'=>∃r',fz σ'.get 6 r=some r'/\K r'
def PCv (X:fj) (f:Nat) (args:List AV) (σ:aw) (K:AV->Prop):Prop:=
 ∃eU,cq (dD σ.get) 6 args=some eU/\X f eU ⟨fun _=>none,σ.next⟩ fun r σ'=>∃r',fu σ'.get 6 r=some r'/\K r'
def gH (X:fj) (f:Nat) (args:List AV) (σ:aw) (K:AV->Prop):Prop:=PC X f args σ K∨PCv X f args σ K
def aM (g:Option (Nat×Bool)) (env:Env):Bool:=
 match g with
 |none=>true
 |some (t,b)=>match env t with
  | .bool c=>c==b
  |_=>false
def AV.plain:AV->Bool
 | .int .. | .bool _| .str _| .br| .gy| .iY| .jh=>true
 |_=>false
def CM (X:fj) (f:Nat) (args:List AV) (σ:aw) (sz:Nat) (rows:List (List AV)):Prop:=
 (∀c∈rows,∀a∈c,a.plain=true)/\∃eU,cq (dD σ.get) 6 args=some eU/\X f eU ⟨fun _=>none,σ.next⟩ fun r σ'=>∃id,r=.own id 0 rows.length/\σ'.get id=some ⟨true,sz,rows⟩
def cF (X:fj) (draw:Bool) (hid:List Nat) (site:Nat) (f:Nat) (args:List AV) (σ:aw) (next:AV->aw->Prop):Prop:=
 (∃r,gH X f args ⟨fV hid σ.next σ.get,σ.next+1⟩ (fun r'=>r'=r)/\next r σ)∨
 (draw=false/\X f args ⟨σ.get,σ.next+1⟩ next)∨
 (hid.contains site=true/\∃sz rows,CM X f args ⟨fV hid σ.next σ.get,σ.next+1⟩ sz rows/\next (.own ⟨site,σ.next⟩ 0 rows.length) ⟨bS σ.get ⟨site,σ.next⟩ ⟨true,sz,rows⟩,σ.next⟩)
def fI (X:fj) (draw:Bool) (o:bj) (env:Env) (σ:aw) (next:AV->aw->Prop):Prop:=
 match o.op with
 | .call f args=>cF X draw o.hid o.site f (args.map (cE env)) σ next
 | .rW x args=>match cE env x with
  | .fn f cD=>cF X draw o.hid o.site f (args.map (cE env)++cD) σ next
  | .u4 f first=>cF X draw o.hid o.site f (first++args.map (cE env)) σ next
  |_=>False
 | .store .. | .append .. | .copy .. | .clear .. | .mw .. =>match fX o.op (cE env) σ.get ⟨o.site,σ.next⟩with
  |some (v,g)=>next v ⟨g,σ.next⟩
  |none=>False
 |_=>match eM o.op (cE env) (fV o.hid σ.next σ.get) ⟨o.site,σ.next⟩with
  |some (v,some r)=>next v ⟨bS σ.get ⟨o.site,σ.next⟩ r,σ.next⟩
  |some (v,none)=>next v σ
  |none=>False
def wpOps (X:fj) (draw:Bool):List bj->(Env->aw->Prop)->Env->aw->Prop
 |[],K,env,σ=>K env ⟨σ.get,σ.next+1⟩
 |o::r,K,env,σ=>
  if aM o.guard env then fI X draw o env σ fun v σ'=>wpOps X draw r K (upd env o.dst v) σ'
  else wpOps X draw r K (upd env o.dst .undef) σ
def cr:List bj->(Env->aw->Prop)->Env->aw->Prop
 |[],K,env,σ=>K env ⟨σ.get,σ.next+1⟩
 |o::r,K,env,σ=>o.guard=none/\match o.op with
  | .snd x y=>match ev σ.get (cE env x) (cE env y)with
   |some g=>cr r K (upd env o.dst .undef) ⟨g,σ.next⟩
   |none=>False
  | .MR x=>match eu σ.get (cE env x)with
   |some (v,g)=>cr r K (upd env o.dst v) ⟨g,σ.next⟩
   |none=>False
  |op=>match eM op (cE env) σ.get ⟨o.site,σ.next⟩with
   |some (v,none)=>cr r K (upd env o.dst v) σ
   |_=>False
def dF (next:Env->aw->Prop) (Q:Ex->Env->aw->Prop):Ex->Env->aw->Prop
 | .normal=>next
 |e=>Q e
def bq (id:Nat) (Q:Ex->Env->aw->Prop):Ex->Env->aw->Prop
 | .exit ki=>if ki=id then Q .normal else Q (.exit ki)
 |e=>Q e
def Dt (W:(Ex->Env->aw->Prop)->Env->aw->Prop) (Q:Ex->Env->aw->Prop):Nat->Env->aw->Prop
 |0=>fun _ _=>False
 |n+1=>W (dF (Dt W Q n) Q)
def JL (t s:Nat) (y:O) (env:Env) (n:Nat):Prop:=(∃len,env t=.own ⟨s,n⟩ 0 len)/\∀id o l,cE env y=.own id o l->id.bY≠n
def eb (X:fj):VC->(Ex->Env->aw->Prop)->Env->aw->Prop
 | .skip,Q=>Q .normal
 | .dG draw ops,Q=>wpOps X draw ops (Q .normal)
 | .seq a b,Q=>eb X a (dF (eb X b Q) Q)
 | .cond c x y,Q=>fun env σ=>match cE env c with
  | .bool b=>if b then eb X x Q env σ else eb X y Q env σ
  |_=>False
 | .block id c,Q=>eb X c (bq id Q)
 | .loop c,Q=>fun env σ=>∃n,Dt (eb X c) Q n env σ
 | .exit id,Q=>Q (.exit id)
 | .ret,Q=>Q .ret
 | .one o c,Q=>fun env σ=>if aM o.guard env then fI X false o env σ fun v σ'=>eb X c Q (upd env o.dst v) σ' else eb X c Q (upd env o.dst .undef) σ
 | .both a b,Q=>fun env σ=>eb X a Q env σ/\eb X b Q env σ
 | .loc t s y c,Q=>fun env σ=>JL t s y env σ.next/\eb X c Q env σ
 | .LC ops,Q=>cr ops (Q .normal)
def gY (env:Env) (g:Rows):oB->Option AV
 | .tmp t=>some (env t)
 | .cell agg n t=>ld g agg n (env t)
def fb (env:Env) (g:Rows):List oB->Option (List AV)
 |[]=>some []
 |r::l=>(gY env g r).bind fun v=>(fb env g l).map (v::·)
def dr:List AV->AV
 |[v]=>v
 |l=>.gE l
def cm (args:List AV):Env:=fun t=>args.getD t .undef
def la (res:List oB) (K:AV->aw->Prop):Ex->Env->aw->Prop
 | .exit _,_,_=>False
 |_,env,σ=>∃vs,fb env σ.get res=some vs/\K (dr vs) σ
inductive jE (P:Program) (w:World) (D:Nat->Prop):AV->Value->Prop
 |int (k n):jE P w D (.int k n) (.int k n)
 |bool (b):jE P w D (.bool b) (.bool b)
 |str (s):jE P w D (.str s) (.string s)
 |br:jE P w D .br (.slice none 0 0)
 |gy:jE P w D .gy (.pointer none)
 |iY:jE P w D .iY .nilFunc
 |AF (a c):c<=maxLen->jE P w D (.sl []) (.slice a 0 c)
 |sl (rows b o n c sz) (vs:Nat->Nat->Value):rows.length=n->n<=c->c<=maxLen->D b->(∀cs∈rows,cs.length=sz)->(∀cs∈rows,∀a∈cs,a.cell=true)->
   (∀i j,i<n->j<sz->w.cell? ⟨b,o+(i*sz+j),none⟩=some (vs i j))->
   (∀i j cs a,rows[i]? =some cs->cs[j]? =some a->jE P w D a (vs i j))->jE P w D (.sl rows) (.slice (some ⟨b,o,none⟩) n c)
 |de (cs b o) (vs:Nat->Value):D b->(∀a∈cs,a.cell=true)->(∀j,j<cs.length->w.cell? ⟨b,o+j,none⟩=some (vs j))->
   (∀j a,cs[j]? =some a->jE P w D a (vs j))->jE P w D (.de cs) (.pointer (some ⟨b,o,none⟩))
 |agg (cs) (vs:Array Value) (f:Nat->Value):vs.size=cs.length->(∀a∈cs,a.cell=true)->(∀j,j<cs.length->vs[j]? =some (f j))->(∀j a,cs[j]? =some a->jE P w D a (f j))->jE P w D (.agg cs) (.agg vs)
 |fn (f cD) (vs:Array Value) (g:Nat->Value):ft P f=true->vs.size=cD.length->(∀j,j<cD.length->vs[j]? =some (g j))->(∀j a,cD[j]? =some a->jE P w D a (g j))->jE P w D (.fn f cD) (.func (.func f) #[] vs)
 |jh:jE P w D .jh (.map none)
inductive BK where
 |map (m:MK)
 |chan (cap:Nat)
structure rQ where
 b:Nat
 sz:Nat
 C:Nat
 k:Option BK
abbrev Names:=Id->Option rQ
inductive cG (P:Program) (w:World) (D:Nat->Prop) (ι:Names):AV->Value->Prop
 |eK (a v):jE P w D a v->cG P w D ι a v
 |own (id off len o cap B):ι id=some B->B.k=none->len<=cap->(cap=0∨o=off*B.sz)->(off+cap)*B.sz<=B.C->cap<=maxLen->cG P w D ι (.own id off len) (.slice (some ⟨B.b,o,none⟩) len cap)
 |ptr (id i off B):ι id=some B->B.k=none->cG P w D ι (.ptr id i off) (.pointer (some ⟨B.b,i*B.sz+off,none⟩))
 |agg (cs) (vs:Array Value) (f:Nat->Value):vs.size=cs.length->(∀a∈cs,a.cell=true)->(∀j,j<cs.length->vs[j]? =some (f j))->(∀j a,cs[j]? =some a->cG P w D ι a (f j))->cG P w D ι (.agg cs) (.agg vs)
 |gE (cs) (vs:Array Value) (f:Nat->Value):vs.size=cs.length->(∀j,j<cs.length->vs[j]? =some (f j))->(∀j a,cs[j]? =some a->cG P w D ι a (f j))->cG P w D ι (.gE cs) (.tuple vs)
 |fn (f cD) (vs:Array Value) (g:Nat->Value):ft P f=true->vs.size=cD.length->(∀j,j<cD.length->vs[j]? =some (g j))->(∀j a,cD[j]? =some a->cG P w D ι a (g j))->cG P w D ι (.fn f cD) (.func (.func f) #[] vs)
 |rf (id c B):ι id=some B->B.k=some (.chan c)->cG P w D ι (.rf id) (.chan (some B.b))
 |map (id m B):ι id=some B->B.k=some (.map m)->cG P w D ι (.map id m) (.map (some B.b))
 |u4 (f cD) (vs:Array Value) (g:Nat->Value):ft P f=true->vs.size=cD.length->(∀j,j<cD.length->vs[j]? =some (g j))->(∀j a,cD[j]? =some a->cG P w D ι a (g j))->cG P w D ι (.u4 f cD) (.func (.func f) vs #[])
variable {P:Program} {w w':World} {D D':Nat->Prop} {ι ι':Names}
theorem jE.frame (hD:∀b,D b->w'.heap[b]? =w.heap[b]?) (hs:∀b,D b->D' b) {a:AV} {v:Value} (h:jE P w D a v):jE P w' D' a v:=by
 induction h with
 |int k n=>exact .int k n
 |bool b=>exact .bool b
 |str s=>exact .str s
 |br=>exact .br
 |gy=>exact .gy
 |iY=>exact .iY
 |jh=>exact .jh
 |AF a c h=>exact .AF a c h
 |sl rows b o n c sz vs h1 h2 h3 h4 h5 h5' h6 _ ih=>exact .sl rows b o n c sz vs h1 h2 h3 (hs b h4) h5 h5' (fun i j hi hj=>(World.cell?_of_block (hD b h4)).trans (h6 i j hi hj)) ih
 |de cs b o vs h1 Oy h2 _ ih=>exact .de cs b o vs (hs b h1) Oy (fun j hj=>(World.cell?_of_block (hD b h1)).trans (h2 j hj)) ih
 |agg cs vs f h1 h2 h3 _ ih=>exact .agg cs vs f h1 h2 h3 ih
 |fn f cD vs g h1 h2 h3 _ ih=>exact .fn f cD vs g h1 h2 h3 ih
theorem cG.frame (hD:∀b,D b->w'.heap[b]? =w.heap[b]?) (hs:∀b,D b->D' b) (hι:∀id B,ι id=some B->ι' id=some B) {a:AV} {v:Value} (h:cG P w D ι a v):cG P w' D' ι' a v:=by
 induction h with
 |eK a v h=>exact .eK a v (h.frame hD hs)
 |map id m B h1 h2=>exact .map id m B (hι _ _ h1) h2
 |rf id c B h1 h2=>exact .rf id c B (hι _ _ h1) h2
 |own id off len o cap B h1 h2 h3 h4 h5 h6=>exact .own id off len o cap B (hι _ _ h1) h2 h3 h4 h5 h6
 |ptr id i off B h1 h2=>exact .ptr id i off B (hι _ _ h1) h2
 |agg cs vs f h1 h2 h3 _ ih=>exact .agg cs vs f h1 h2 h3 ih
 |gE cs vs f h1 h2 _ ih=>exact .gE cs vs f h1 h2 ih
 |fn f cD vs g h1 h2 h3 _ ih=>exact .fn f cD vs g h1 h2 h3 ih
 |u4 f cD vs g h1 h2 h3 _ ih=>exact .u4 f cD vs g h1 h2 h3 ih
theorem cG.undef:cG P w D ι .undef Go.undef:=.gE [] #[] (fun _=>Go.undef) rfl (fun j hj=>by simp at hj) (fun j a h=>by simp at h)
theorem ux (c:K):cG P w D ι c.av c.val:=by
 cases c with
 |int k n=>exact .eK _ _ (.int k n)
 |bool b=>exact .eK _ _ (.bool b)
 |str l=>exact .eK _ _ (.str _)
 |br=>exact .eK _ _ .br
 |gy=>exact .eK _ _ .gy
 |iY=>exact .eK _ _ .iY
 |jh=>exact .eK _ _ .jh
theorem K.lY (c:K):c.av.cell=true:=by cases c<;>rfl
theorem xQ {v:Value} {c:K} (h:EM v=some c):v=c.val:=by
 unfold EM at h
 split at h<;>simp at h<;>subst h<;>rfl
theorem cG.y9 {a:AV} {v:Value} (h:cG P w D ι a v) (hc:a.cell=true):v.cells= #[v]/\(∀vs,v≠.agg vs)/\(∀vs,v≠.tuple vs):=by
 cases h with
 |eK a v h=>cases h<;>simp_all [AV.cell,Value.cells]
 |own=>simp[Value.cells]
 |map=>simp[Value.cells]
 |rf=>simp[Value.cells]
 |ptr=>simp[Value.cells]
 |agg=>simp[AV.cell]at hc
 |gE=>simp[AV.cell]at hc
 |fn=>simp[Value.cells]
 |u4=>simp[Value.cells]
theorem cG.cells {a:AV} {v:Value} (h:cG P w D ι a v) (ha:a.cells.all AV.cell=true):v.cells.size=a.cells.length/\∃f:Nat->Value,(∀j,j<a.cells.length->v.cells[j]? =some (f j))/\∀j x,a.cells[j]? =some x->cG P w D ι x (f j):=by
 have one:∀(a:AV) (v:Value),a.cell=true->a.cells=[a]->cG P w D ι a v->v.cells.size=a.cells.length/\∃f:Nat->Value,(∀j,j<a.cells.length->v.cells[j]? =some (f j))/\∀j x,a.cells[j]? =some x->cG P w D ι x (f j):=by
  intro a v hc dn h
  obtain⟨h1,_,_⟩:=h.y9 hc
  rw[h1,dn]
  refine⟨rfl,fun _=>v,fun j hj=>?_,fun j x hx=>?_⟩
  ·have:j=0:=by simp at hj;omega
   subst this;rfl
  ·cases j with
   |zero=>simp at hx;subst hx;exact h
   |succ j=>simp at hx
 cases h with
 |eK a v h=>
  cases h with
  |agg cs vs f h1 h2 h3 h4=>exact⟨h1,f,h3,fun j x hx=>.eK _ _ (h4 j x hx)⟩
  |_=>exact one _ _ rfl rfl (.eK _ _ (by constructor<;>assumption))
 |own id off len o cap B h1 h2 h3 h4 h5 h6=>exact one _ _ rfl rfl (.own id off len o cap B h1 h2 h3 h4 h5 h6)
 |ptr id i off B h1 h2=>exact one _ _ rfl rfl (.ptr id i off B h1 h2)
 |map id m B h1 h2=>exact one _ _ rfl rfl (.map id m B h1 h2)
 |rf id c B h1 h2=>exact one _ _ rfl rfl (.rf id c B h1 h2)
 |agg cs vs f h1 h2 h3 h4=>exact⟨h1,f,h3,h4⟩
 |gE cs vs f h1 h2 h3=>simp[AV.cells,AV.cell]at ha
 |fn f cD vs g h1 h2 h3 h4=>exact one _ _ rfl rfl (.fn f cD vs g h1 h2 h3 h4)
 |u4 f cD vs g h1 h2 h3 h4=>exact one _ _ rfl rfl (.u4 f cD vs g h1 h2 h3 h4)
structure kS (P:Program) (w:World) (D:Nat->Prop) (ι:Names) (B:rQ) (r:Row):Prop where
 sz:B.sz=r.sz
 DW:∃cells T,w.heap[B.b]? =some (.cells cells T (0,0))/\cells.size=B.C
 fits:r.rows.length*r.sz<=B.C
 len:∀cs∈r.rows,cs.length=r.sz
 flat:∀cs∈r.rows,∀a∈cs,a.cell=true
 at_:∀i j cs a,r.rows[i]? =some cs->cs[j]? =some a->∃v,w.cell? ⟨B.b,i*r.sz+j,none⟩=some v/\cG P w D ι a v
def Lk (es:Array MapEntry) (clock:Nat):Prop:=(∀x∈es.toList,x.born<clock)/\(es.toList.map (·.born)).Nodup
def KA (P:Program) (w:World) (D:Nat->Prop) (ι:Names) (B:rQ) (m:MK) (r:Row):Prop:=
 ∃(es:Array MapEntry) (clock:Nat),w.heap[B.b]? =some (.map es clock)/\es.size=r.rows.length/\((∀cs∈r.rows,cs.length=m.ks+1)/\Lk es clock)/\
  ∀(i:Nat) (cs:List AV),r.rows[i]? =some cs->∃(e:MapEntry) (kv vv:AV),es[i]? =some e/\part m.ka m.ks cs=some kv/\cs[m.ks]? =some vv/\cG P w D ι kv e.key/\cG P w D ι vv e.val
def F1 (P:Program) (w:World) (D:Nat->Prop) (ι:Names) (B:rQ) (c:Nat) (r:Row):Prop:=
 ∃(buf:Array Value) (s q:Nat),w.heap[B.b]? =some (.chan c buf false s q false)/\buf.size=r.rows.length/\
  ∀(i:Nat) (cs:List AV),r.rows[i]? =some cs->∃(a:AV) (u:Value),cs=[a]/\buf[i]? =some u/\cG P w D ι a u
structure ik (P:Program) (w:World) (D:Nat->Prop) (ι:Names) (B:rQ) (r:Row):Prop where
 sz:B.sz=r.sz
 flat:∀cs∈r.rows,∀a∈cs,a.cell=true
 row:B.k=none->kS P w D ι B r
 map:∀m,B.k=some (.map m)->r.sz=m.Co/\KA P w D ι B m r
 chan:∀c,B.k=some (.chan c)->r.sz=pU+c/\F1 P w D ι B c r
theorem kS.obj {B:rQ} {r:Row} (R:kS P w D ι B r) (h:B.k=none):ik P w D ι B r:=⟨R.sz,R.flat,fun _=>R,fun m hm=>(by rw[h]at hm;cases hm),fun m hm=>by rw[h]at hm;cases hm⟩
theorem ik.flag {B:rQ} {r:Row} (R:ik P w D ι B r) (b:Bool):ik P w D ι B {r with w:=b}:=⟨R.sz,R.flat,fun h=>⟨R.sz,(R.row h).DW,(R.row h).fits,(R.row h).len,R.flat,(R.row h).at_⟩,R.map,R.chan⟩
theorem ik.JX {B:rQ} {r:Row} (R:ik P w D ι B r) {c:Array Value} {T:TypeId} {z:Nat×Nat} (h:w.heap[B.b]? =some (.cells c T z)):B.k=none:=by
 cases hk:B.k with
 |none=>rfl
 |some m=>
  cases m with
  |map m=>obtain⟨_,es,c,h3,_⟩:=R.map m hk;rw[h]at h3;cases h3
  |chan c=>obtain⟨_,buf,s,q,h3,_⟩:=R.chan c hk;rw[h]at h3;cases h3
theorem ik.lt {B:rQ} {r:Row} (R:ik P w D ι B r):B.b<w.heap.size:=by
 cases h:B.k with
 |none=>
  obtain⟨c,T,h3,_⟩:=(R.row h).DW
  exact(Array.getElem?_eq_some_iff.1 h3).1
 |some m=>
  cases m with
  |map m=>obtain⟨_,es,c,h3,_⟩:=R.map m h;exact(Array.getElem?_eq_some_iff.1 h3).1
  |chan c=>obtain⟨_,buf,s,q,h3,_⟩:=R.chan c h;exact(Array.getElem?_eq_some_iff.1 h3).1
structure fW (P:Program) (hs:Nat) (D:Nat->Prop) (ι:Names) (g:Rows) (w:World):Prop where
 lo:hs<=w.heap.size
 dead:∀b,D b->b<w.heap.size
 row:∀id r,g id=some r->∃B,ι id=some B/\ik P w D ι B r/\(r.w=true->hs<=B.b)/\(r.w=true->¬D B.b)
 inj:∀id ki r r' B B',g id=some r->g ki=some r'->r.w=true->ι id=some B->ι ki=some B'->B.b=B'.b->id=ki
def Used (ι:Names) (n:Nat) (U:Nat->Prop):Prop:=∀id,ι id≠none->id.bY<n∨(id.bY=n/\U id.site)
structure Step (hs:Nat) (D:Nat->Prop) (ι:Names) (w:World) (D':Nat->Prop) (ι':Names) (w':World):Prop where
 below:Below hs w w'
 tX:∀b,D b->w'.heap[b]? =w.heap[b]?
 dead:∀b,D b->D' b
 names:∀id B,ι id=some B->ι' id=some B
 new:∀b,D' b->D b∨hs<=b
theorem Step.refl (hs:Nat) (D:Nat->Prop) (ι:Names) (w:World):Step hs D ι w D ι w:=⟨Below.refl _ _,fun _ _=>rfl,fun _ h=>h,fun _ _ h=>h,fun _ h=>.inl h⟩
theorem Step.trans {hs:Nat} {D D' D'':Nat->Prop} {ι ι' PX:Names} {w w' IH:World} (h:Step hs D ι w D' ι' w') (k:Step hs D' ι' w' D'' PX IH):Step hs D ι w D'' PX IH:=
 ⟨h.below.trans k.below,fun b hb=>(k.tX b (h.dead b hb)).trans (h.tX b hb),fun b hb=>k.dead b (h.dead b hb),fun id B hB=>k.names id B (h.names id B hB),fun b hb=>by
  rcases k.new b hb with hb|hb
  ·exact h.new b hb
  ·exact .inr hb⟩
theorem Step.rep {hs:Nat} {D D':Nat->Prop} {ι ι':Names} {w w':World} (h:Step hs D ι w D' ι' w') {a:AV} {v:Value} (hr:cG P w D ι a v):cG P w' D' ι' a v:=hr.frame h.tX h.dead h.names
theorem dj {k n} {v:Value} (h:cG P w D ι (.int k n) v):v=.int k n:=by
 cases h with
 |eK _ _ h=>cases h;rfl
theorem eS {b} {v:Value} (h:cG P w D ι (.bool b) v):v=.bool b:=by
 cases h with
 |eK _ _ h=>cases h;rfl
theorem eV {s} {v:Value} (h:cG P w D ι (.str s) v):v=.string s:=by
 cases h with
 |eK _ _ h=>cases h;rfl
theorem jL {v:Value} (h:cG P w D ι .br v):v=.slice none 0 0:=by
 cases h with
 |eK _ _ h=>cases h;rfl
theorem uy {v:Value} (h:cG P w D ι .iY v):v=.nilFunc:=by
 cases h with
 |eK _ _ h=>cases h;rfl
theorem iv {cs} {v:Value} (h:cG P w D ι (.agg cs) v):∃(vs:Array Value) (f:Nat->Value),v=.agg vs/\vs.size=cs.length/\(∀a∈cs,a.cell=true)/\(∀j,j<cs.length->vs[j]? =some (f j))/\∀j a,cs[j]? =some a->cG P w D ι a (f j):=by
 cases h with
 |eK _ _ h=>
  cases h with
  |agg cs vs f h1 h2 h3 h4=>exact⟨vs,f,rfl,h1,h2,h3,fun j a h=>.eK _ _ (h4 j a h)⟩
 |agg cs vs f h1 h2 h3 h4=>exact⟨vs,f,rfl,h1,h2,h3,h4⟩
theorem tb {cs} {v:Value} (h:cG P w D ι (.gE cs) v):∃(vs:Array Value) (f:Nat->Value),v=.tuple vs/\vs.size=cs.length/\(∀j,j<cs.length->vs[j]? =some (f j))/\∀j a,cs[j]? =some a->cG P w D ι a (f j):=by
 cases h with
 |eK _ _ h=>cases h
 |gE cs vs f h1 h2 h3=>exact⟨vs,f,rfl,h1,h2,h3⟩
theorem Ck {f cD} {v:Value} (h:cG P w D ι (.fn f cD) v):∃(vs:Array Value) (g:Nat->Value),v=.func (.func f) #[] vs/\ft P f=true/\vs.size=cD.length/\(∀j,j<cD.length->vs[j]? =some (g j))/\∀j a,cD[j]? =some a->cG P w D ι a (g j):=by
 cases h with
 |eK _ _ h=>
  cases h with
  |fn f cD vs g h1 h2 h3 h4=>exact⟨vs,g,rfl,h1,h2,h3,fun j a h=>.eK _ _ (h4 j a h)⟩
 |fn f cD vs g h1 h2 h3 h4=>exact⟨vs,g,rfl,h1,h2,h3,h4⟩
theorem HD {v:Value} (h:cG P w D ι .gy v):v=.pointer none:=by
 cases h with
 |eK _ _ h=>cases h;rfl
theorem Ad {v:Value} (h:cG P w D ι .jh v):v=.map none:=by
 cases h with
 |eK _ _ h=>cases h;rfl
theorem Kd {f cD} {v:Value} (h:cG P w D ι (.u4 f cD) v):∃(vs:Array Value) (g:Nat->Value),v=.func (.func f) vs #[]/\ft P f=true/\vs.size=cD.length/\(∀j,j<cD.length->vs[j]? =some (g j))/\∀j a,cD[j]? =some a->cG P w D ι a (g j):=by
 cases h with
 |eK _ _ h=>cases h
 |u4 f cD vs g h1 h2 h3 h4=>exact⟨vs,g,rfl,h1,h2,h3,h4⟩
theorem ja {id off len} {v:Value} (h:cG P w D ι (.own id off len) v):∃o cap B,v=.slice (some ⟨B.b,o,none⟩) len cap/\ι id=some B/\len<=cap/\(cap=0∨o=off*B.sz)/\(off+cap)*B.sz<=B.C/\cap<=maxLen/\B.k=none:=by
 cases h with
 |eK _ _ h=>cases h
 |own id off len o cap B h1 h2 h3 h4 h5 h6=>exact⟨o,cap,B,rfl,h1,h3,h4,h5,h6,h2⟩
theorem jb {id i off} {v:Value} (h:cG P w D ι (.ptr id i off) v):∃B,v=.pointer (some ⟨B.b,i*B.sz+off,none⟩)/\ι id=some B/\B.k=none:=by
 cases h with
 |eK _ _ h=>cases h
 |ptr id i off B h1 h2=>exact⟨B,rfl,h1,h2⟩
theorem J9 {id} {v:Value} (h:cG P w D ι (.rf id) v):∃B c,v=.chan (some B.b)/\ι id=some B/\B.k=some (.chan c):=by
 cases h with
 |eK _ _ h=>cases h
 |rf id c B h1 h2=>exact⟨B,c,rfl,h1,h2⟩
theorem Kc {id m} {v:Value} (h:cG P w D ι (.map id m) v):∃B,v=.map (some B.b)/\ι id=some B/\B.k=some (.map m):=by
 cases h with
 |eK _ _ h=>cases h
 |map id m B h1 h2=>exact⟨B,rfl,h1,h2⟩
theorem kA {cs} {v:Value} (h:cG P w D ι (.de cs) v):∃b o,∃vs:Nat->Value,v=.pointer (some ⟨b,o,none⟩)/\D b/\(∀a∈cs,a.cell=true)/\(∀j,j<cs.length->w.cell? ⟨b,o+j,none⟩=some (vs j))/\∀j a,cs[j]? =some a->jE P w D a (vs j):=by
 cases h with
 |eK _ _ h=>
  cases h with
  |de cs b o vs h1 h2 h3 h4=>exact⟨b,o,vs,rfl,h1,h2,h3,h4⟩
theorem uz {rows} {v:Value} (h:cG P w D ι (.sl rows) v):∃A c,v=.slice A rows.length c/\rows.length<=c/\c<=maxLen/\
  (rows=[]∨∃b o sz,∃vs:Nat->Nat->Value,A=some ⟨b,o,none⟩/\D b/\(∀cs∈rows,cs.length=sz)/\(∀cs∈rows,∀a∈cs,a.cell=true)/\
   (∀i j,i<rows.length->j<sz->w.cell? ⟨b,o+(i*sz+j),none⟩=some (vs i j))/\∀i j cs a,rows[i]? =some cs->cs[j]? =some a->jE P w D a (vs i j)):=by
 cases h with
 |eK _ _ h=>
  cases h with
  |AF a c h=>exact⟨a,c,rfl,Nat.zero_le _,h,.inl rfl⟩
  |sl rows b o n c sz vs h1 h2 h3 h4 h5 h5' h6 h7=>subst h1;exact⟨_,c,rfl,h2,h3,.inr ⟨b,o,sz,vs,rfl,h4,h5,h5',h6,h7⟩⟩
inductive eG:AV->Prop
 |int (k n):eG (.int k n)
 |bool (b):eG (.bool b)
 |str (s):eG (.str s)
 |br:eG .br
 |gy:eG .gy
 |iY:eG .iY
 |sl (rows):rows.length<=maxLen->(∀cs∈rows,∀a∈cs,eG a)->eG (.sl rows)
 |own (id off len):eG (.own id off len)
 |ptr (id i off):eG (.ptr id i off)
 |de (cs):(∀a∈cs,eG a)->eG (.de cs)
 |agg (cs):(∀a∈cs,eG a)->eG (.agg cs)
 |gE (cs):(∀a∈cs,eG a)->eG (.gE cs)
 |fn (f cD):(∀a∈cD,eG a)->eG (.fn f cD)
 |map (id m):eG (.map id m)
 |rf (id):eG (.rf id)
 |jh:eG .jh
 |u4 (f cD):(∀a∈cD,eG a)->eG (.u4 f cD)
theorem eG.len {rows:List (List AV)} (h:eG (.sl rows)):rows.length<=9223372036854775807:=by
 cases h with
 |sl _ h _=>unfold maxLen at h;omega
theorem eG.IM {cs:List AV} (h:eG (.agg cs)) {a:AV} (ha:a∈cs):eG a:=by
 cases h with
 |agg _ h=>exact h a ha
theorem eG.wL {cs:List AV} (h:eG (.de cs)) {a:AV} (ha:a∈cs):eG a:=by
 cases h with
 |de _ h=>exact h a ha
theorem nM {l:List AV} {p:AV->Prop} (h:∀(j:Nat) (a:AV),l[j]? =some a->p a):∀a∈l,p a:=fun a ha=>by
 obtain⟨j,hj,rfl⟩:=List.getElem_of_mem ha
 exact h j _ (List.getElem?_eq_getElem hj)
theorem jE.Hd {a:AV} {v:Value} (h:jE P w D a v):eG a:=by
 induction h with
 |int k n=>exact .int k n
 |bool b=>exact .bool b
 |str s=>exact .str s
 |br=>exact .br
 |gy=>exact .gy
 |iY=>exact .iY
 |jh=>exact .jh
 |AF a c h=>exact .sl [] (Nat.zero_le _) (fun cs h=>by cases h)
 |sl rows b o n c sz vs h1 h2 h3 h4 h5 h5' h6 _ ih=>
  exact .sl rows ab fun cs dn a ha=>by
   obtain⟨i,hi,rfl⟩:=List.getElem_of_mem dn
   obtain⟨j,hj,rfl⟩:=List.getElem_of_mem ha
   exact ih i j _ _ (List.getElem?_eq_getElem hi) (List.getElem?_eq_getElem hj)
 |de cs b o vs h1 Oy h2 _ ih=>exact .de cs (nM ih)
 |agg cs vs f h1 h2 h3 _ ih=>exact .agg cs (nM ih)
 |fn f cD vs g h1 h2 h3 _ ih=>exact .fn f cD (nM ih)
theorem cG.Hd {a:AV} {v:Value} (h:cG P w D ι a v):eG a:=by
 induction h with
 |eK a v h=>exact h.Hd
 |own id off len o cap B=>exact .own _ _ _
 |ptr id i off B=>exact .ptr _ _ _
 |map id m B=>exact .map _ _
 |rf id c B=>exact .rf _
 |agg cs vs f h1 h2 h3 _ ih=>exact .agg cs (nM ih)
 |gE cs vs f h1 h2 _ ih=>exact .gE cs (nM ih)
 |fn f cD vs g h1 h2 h3 _ ih=>exact .fn f cD (nM ih)
 |u4 f cD vs g h1 h2 h3 _ ih=>exact .u4 f cD (nM ih)
end Go.Proofs.YtihgaadadaekmaaGreat.V

namespace Go.Proofs.YtihgaadadaekmaaGreat.V
open Go.RowKit
variable {P:Program} {w w':World} {D D':Nat->Prop} {ι ι':Names}
def bI (P:Program) (w:World) (D:Nat->Prop) (ι:Names) (env:Env) (a:Act):Prop:=∀t,cG P w D ι (env t) (a.tmps.getD t undef)
theorem ql {vs:List Value} {cs:List K} (h:vs.mapM EM=some cs):cs.length=vs.length/\∀(j:Nat) (c:K),cs[j]? =some c->vs[j]? =some c.val:=by
 induction vs generalizing cs with
 |nil=>simp at h;subst h;simp
 |cons v r ih=>
  simp only[List.mapM_cons,Option.bind_eq_bind,Option.bind_eq_some_iff]at h
  obtain⟨c,hc,oI,dn,h⟩:=h
  simp at h;subst h
  obtain⟨h1,h2⟩:=ih dn
  refine⟨by simp[h1],fun j d hd=>?_⟩
  cases j with
  |zero=>simp at hd ⊢;subst hd;exact xQ hc
  |succ j=>simp at hd ⊢;exact h2 j d hd
theorem Sg {vs:List Value} {cs:List K} (h:vs.mapM EM=some cs):cG P w D ι (.agg (cs.map K.av)) (.agg vs.toArray):=by
 obtain⟨h1,h2⟩:=ql h
 refine .agg _ _ (fun j=>vs.getD j undef) (by simp[h1]) (fun a ha=>?_) (fun j hj=>?_) (fun j a ha=>?_)
 ·obtain⟨c,_,rfl⟩:=List.mem_map.1 ha;exact c.lY
 ·simp at hj;simp[List.getElem?_eq_getElem (show j<vs.length by omega)]
 ·simp only[List.getElem?_map,Option.map_eq_some_iff]at ha
  obtain⟨c,hc,rfl⟩:=ha
  rw[List.getD_eq_getElem?_getD,h2 j c hc];exact ux c
theorem cN {env:Env} {a:Act} {x:Operand} {y:O} (E:bI P w D ι env a) (h:cO P x=some y):cG P w D ι (cE env y) (a.eval x):=by
 unfold cO at h
 split at h
 ·simp at h;subst h;exact E _
 ·simp only[Option.map_eq_some_iff]at h
  obtain⟨cs,dn,rfl⟩:=h
  have:=Sg (P:=P) (w:=w) (D:=D) (ι:=ι) dn
  simpa[Act.eval,cE]using this
 ·simp only[Option.map_eq_some_iff]at h
  obtain⟨c,hc,rfl⟩:=h
  simp only[Act.eval,cE]
  rw[xQ hc];exact ux c
 ·simp at h
 ·split at h
  ·rename_i hc
   simp at h;subst h
   simp only[Act.eval,cE]
   exact .fn _ _ _ (fun _=>undef) hc rfl (fun j hj=>by simp at hj) (fun j a h=>by simp at h)
  ·simp at h
def np (P:Program) (a:Act) (o:Oper) (w:World) (D:Nat->Prop) (ι:Names) (v:AV):Prop:=∃u,(execOp a.eval o).run P w=.ok (.value u) w/\cG P w D ι v u
section
variable {g:Rows} {hs:Nat} {env:Env} {a:Act} {o:Oper} {id:Id} {v:AV}
theorem Lf {x:Operand} {y:O} (E:bI P w D ι env a) (ho:o.op=.move x∨o.op=.assign x) (hx:cO P x=some y):np P a o w D ι (cE env y):=by
 refine⟨a.eval x,?_,cN E hx⟩
 rcases ho with h|h<;>simp[execOp,h,go_sem]
theorem Nt {c x y:Operand} {c' x' y':O} (E:bI P w D ι env a) (ho:o.op=.pick c x y) (hc:cO P c=some c') (hx:cO P x=some x') (hy:cO P y=some y') (hv:cZ (cE env c') (cE env x') (cE env y')=some v):np P a o w D ι v:=by
 unfold cZ at hv
 split at hv
 ·rename_i b hb
  simp at hv;subst hv
  have h1:=eS (hb▸cN E hc)
  refine⟨if b then a.eval x else a.eval y,by simp only[execOp,ho,h1,asBool];rfl,?_⟩
  cases b
  ·exact cN E hy
  ·exact cN E hx
 ·simp at hv
theorem PM {op:BinOp} {x y:Operand} {x' y':O} {t yt:TypeId} (E:bI P w D ι env a) (ho:o.op=.binOp op t x y yt) (he:op≠.eql) (hn:op≠.neq) (hx:cO P x=some x') (hy:cO P y=some y') (hv:ei op (cE env x') (cE env y')=some v):np P a o w D ι v:=by
 unfold ei at hv
 split at hv
 ·rename_i k n k' m hb rn
  split at hv
  ·rename_i hk
   subst hk
   have h1:=dj (hb▸cN E hx)
   have h2:=dj (rn▸cN E hy)
   have key:∀u,(binOp op t (.int k n) (.int k m)).run P w=.ok u w->(execOp a.eval o).run P w=.ok (.value u) w:=fun u hu=>by
    have e0:eqGuard op t x y (.int k n) (.int k m)=pure ():=by unfold eqGuard;cases op<;>rfl
    simp only[execOp,ho,h1,h2,e0]
    simp[go_sem,hu]
   cases op<;>simp only[dH]at hv<;>(try(simp at hv;done))<;>(try split at hv)<;>(try(simp at hv;done))<;>simp only[Option.some.injEq]at hv<;>subst hv<;>
    (refine⟨_,key _ (by simp only[binOp,ne_eq,not_true_eq_false,if_false,Op.intArith,Op.intDiv,Op.intBits,Op.intCmp, *];rfl),?_⟩)<;>
    first
     |exact .eK _ _ (.int _ _)
     |exact .eK _ _ (.bool _)
  ·simp at hv
 ·simp at hv
theorem Nc {op:BinOp} {x y:Operand} {x' y':O} {t yt:TypeId} (E:bI P w D ι env a) (ho:o.op=.binOp op t x y yt) (he:op≠.eql) (hn:op≠.neq) (hx:cO P x=some x') (hy:cO P y=some y') (hv:dc op (cE env x') (cE env y')=some v):np P a o w D ι v:=by
 unfold dc at hv
 split at hv
 ·rename_i n m hb rn
  have h1:=eV (hb▸cN E hx)
  have h2:=eV (rn▸cN E hy)
  cases op<;>simp only[eA]at hv<;>(try(simp at hv;done))
  case add=>
   split at hv
   ·rename_i hl
    simp only[Option.some.injEq]at hv;subst hv
    exact⟨_,by simp only[execOp,ho,h1,h2];simp[eqGuard,binOp,go_sem];exact hl,.eK _ _ (.str _)⟩
   ·simp at hv
  all_goals
   simp only[Option.some.injEq]at hv;subst hv
   exact⟨_,by simp only[execOp,ho,h1,h2];simp[eqGuard,binOp,Op.stringOp,go_sem],.eK _ _ (.bool _)⟩
 ·simp at hv
theorem DF (n m:ByteArray):(n.toList==m.toList)=decide (n=m):=by
 rw[ByteArray.toList_eq,ByteArray.toList_eq]
 by_cases h:n=m
 ·subst h;simp
 ·have:n.data.toList≠m.data.toList:=fun he=>h (ByteArray.ext (Array.ext' he))
  rw[decide_eq_false h];exact beq_eq_false_iff_ne.2 this
theorem ot {t:TypeId} (h:eZ P t=some .tB):P.underlying t=some .bool:=by unfold eZ at h;split at h<;>simp_all
theorem ou {t:TypeId} (h:eZ P t=some .tI):∃k,P.underlying t=some (.int k):=by unfold eZ at h;split at h<;>simp_all
theorem ov {t:TypeId} (h:eZ P t=some .tS):P.underlying t=some .string:=by unfold eZ at h;split at h<;>simp_all
theorem qx {d:Nat} {t:TypeId} {s:TS} {x y:AV} {u u':Value} {b:Bool} (hx:cG P w D ι x u) (hy:cG P w D ι y u') (hv:fZ s x y=some b) (ht:eZ P t=some s):(Op.equalIn (d+1) t u u').run P w=.ok b w:=by
 unfold fZ at hv
 split at hv
 ·rename_i k n k' m
  split at hv
  ·rename_i hk
   subst hk
   simp at hv;subst hv
   obtain⟨q,hq⟩:=ou ht
   rw[dj hx,dj hy,run_equalIn_int _ _ _ _ _ _ _ hq];rfl
  ·simp at hv
 ·simp at hv;subst hv
  rw[eS hx,eS hy,run_equalIn_bool' _ _ _ _ _ (ot ht)]
 ·simp at hv;subst hv
  rw[eV hx,eV hy,run_equalIn_string _ _ _ _ _ (ov ht),DF]
 ·simp at hv
def e7 (P:Program) (w:World) (D:Nat->Prop) (ι:Names) (xs:List AV) (vs:Array Value):Prop:=vs.size=xs.length/\∀(j:Nat) (a:AV),xs[j]? =some a->∃u,vs[j]? =some u/\cG P w D ι a u
theorem e7.part {xs:List AV} {vs:Array Value} (h:e7 P w D ι xs vs) (off n:Nat) (hn:off+n<=xs.length):e7 P w D ι ((xs.drop off).take n) (vs.extract off (off+n)):=by
 refine⟨by simp[h.1];omega,fun j a ha=>?_⟩
 rw[List.getElem?_take]at ha
 split at ha
 ·rename_i hj
  rw[List.getElem?_drop]at ha
  obtain⟨u,h1,h2⟩:=h.2 _ _ ha
  refine⟨u,?_,h2⟩
  rw[Array.getElem?_extract]
  rw[if_pos (by rw[h.1];omega),h1]
 ·simp at ha
theorem pV:∀{ts:List TS} {xs ys:List AV} {b:Bool},e8 ts xs ys=some b->xs.length=ts.length/\ys.length=ts.length
 |[],[],[],_,_=>⟨rfl,rfl⟩
 |t::ts,x::xs,y::ys,b,h=>by
  unfold e8 at h
  split at h
  ·rename_i c d h1 h2
   have:=pV h2
   simp[this.1,this.2]
  ·simp at h
 |[],[],_::_,_,h=>by simp[e8]at h
 |[],_::_,_,_,h=>by simp[e8]at h
 |_::_,[],_,_,h=>by simp[e8]at h
 |_::_,_::_,[],_,h=>by simp[e8]at h
theorem C0:∀{ts us:List TS} {xs ys:List AV} {b:Bool},e8 (ts++us) xs ys=some b->∃c d,e8 ts (xs.take ts.length) (ys.take ts.length)=some c/\e8 us (xs.drop ts.length) (ys.drop ts.length)=some d/\b=(c&&d)
 |[],us,xs,ys,b,h=>⟨true,b,by simp[e8],by simpa using h,by simp⟩
 |t::ts,us,x::xs,y::ys,b,h=>by
  simp only[List.cons_append]at h
  unfold e8 at h
  split at h
  ·rename_i c d h1 h2
   obtain⟨c',d',h3,h4,rfl⟩:=C0 h2
   simp at h;subst h
   exact⟨c&&c',d',by simp[e8,h1,h3],by simpa using h4,by simp[Bool.and_assoc]⟩
  ·simp at h
 |t::ts,us,[],ys,b,h=>by simp[e8]at h
 |t::ts,us,x::xs,[],b,h=>by simp[e8]at h
theorem lL {t:TypeId} {vs:Array Value} {off:Nat} {u:Value} (ha:mV P t=some false) (hu:vs[off]? =some u):(Go.part t vs off).run P w=.ok u w:=by
 unfold mV at ha
 have hi:(isAgg t).run P w=.ok false w:=by
  split at ha<;>simp at ha
  rename_i d h1 h2 hd
  simp only[isAgg,Sem.run_bind,run_underlying hd,Result.andThen_ok]
  cases d<;>simp_all
 simp[Go.part,hi,hu]
theorem rI {t:TypeId} {b:Bool} (ha:mV P t=some b):(isAgg t).run P w=.ok b w:=by
 unfold mV at ha
 split at ha<;>simp at ha<;>subst ha<;>rename_i hd<;>simp only[isAgg,Sem.run_bind,run_underlying hd,Result.andThen_ok]<;>(try simp)
theorem run_sizeOf {t:TypeId} {n:Nat} (h:dK P t=some n):(sizeOf t).run P w=.ok n w:=by
 unfold dK at h
 simp only[Option.map_eq_some_iff]at h
 obtain⟨i,hi,rfl⟩:=h
 simp[sizeOf,typeInfo,hi]
theorem oq {t:TypeId} {vs:Array Value} {off n:Nat} (ha:mV P t=some true) (hn:dK P t=some n):(Go.part t vs off).run P w=.ok (.agg (vs.extract off (off+n))) w:=by
 simp[Go.part,rI ha,run_sizeOf hn]
theorem GB (d off:Nat):ef P (d+1) off []=some []:=rfl
theorem wm (d off:Nat) (f:Field) (r:List Field):ef P (d+1) off (f::r)=(if f.offset=off/\f.name≠ "_" then
   match eZ P f.type with
   |some t=>if mV P f.type=some false then(ef P (d+1) (off+1) r).map (t::·)else none
   |none=>match P.underlying f.type with
    |some (.struct fs)=>if !P.stoodInHeld f.type then match ef P d 0 fs.toList with
     |some ts=>if dK P f.type=some ts.length/\ts≠[]then(ef P (d+1) (off+ts.length) r).map (ts++·)else none
     |none=>none else none
    |_=>none
  else none):=rfl
theorem qw:∀(d:Nat) (fs:List Field) (off:Nat) (ts:List TS),ef P d off fs=some ts->∀(N:Nat) (_:d<=N) (xs ys:List AV) (vs us:Array Value) (b:Bool),e7 P w D ι xs vs->e7 P w D ι ys us->
  e8 ts ((xs.drop off).take ts.length) ((ys.drop off).take ts.length)=some b->(Op.eqFields (N+1) vs us fs).run P w=.ok b w:=by
 intro d
 induction d with
 |zero=>
  intro fs off ts hf N _ xs ys vs us b _ _ he
  cases fs with
  |nil=>simp[ef]at hf;subst hf;simp[e8]at he;subst he;simp[Op.eqFields]
  |cons f r=>simp[ef]at hf
 |succ d ihd=>
  intro fs
  induction fs with
  |nil=>
   intro off ts hf N _ xs ys vs us b _ _ he
   rw[GB]at hf;simp at hf;subst hf;simp[e8]at he;subst he;simp[Op.eqFields]
  |cons f r ih=>
   intro off ts hf N hN xs ys vs us b hx hy he
   rw[wm]at hf
   split at hf
   ·rename_i hcond
    obtain⟨ho,gU⟩:=hcond
    split at hf
    ·rename_i s hs
     split at hf
     ·rename_i s5
      simp only[Option.map_eq_some_iff]at hf
      obtain⟨Lc,hr,rfl⟩:=hf
      obtain⟨l1,l2⟩:=pV he
      simp only[List.length_cons,List.length_take,List.length_drop]at l1 l2
      have FV:off<xs.length:=ab
      have hyo:off<ys.length:=ab
      rw[List.drop_eq_getElem_cons FV,List.drop_eq_getElem_cons hyo,List.length_cons,List.take_succ_cons,List.take_succ_cons]at he
      unfold e8 at he
      split at he
      ·rename_i c d' h1 h2
       simp at he;subst he
       obtain⟨u,hu,ru⟩:=hx.2 off _ (List.getElem?_eq_getElem FV)
       obtain⟨u',Dj,ru'⟩:=hy.2 off _ (List.getElem?_eq_getElem hyo)
       have:=ih (off+1) Lc hr N hN xs ys vs us d' hx hy h2
       simp only[Op.eqFields,if_pos gU,Sem.run_bind,ho,lL s5 hu,lL s5 Dj,Result.andThen_ok,qx ru ru' h1 hs,Sem.run_ite]
       cases c<;>simp[this]
      ·simp at he
     ·simp at hf
    ·split at hf
     ·rename_i fs' p4
      split at hf
      ·rename_i eB
       split at hf
       ·rename_i ts1 hts1
        split at hf
        ·rename_i eY
         simp only[Option.map_eq_some_iff]at hf
         obtain⟨Lc,hr,rfl⟩:=hf
         obtain⟨c,d',h1,h2,rfl⟩:=C0 he
         obtain⟨l1,l2⟩:=pV he
         simp only[List.length_append,List.length_take,List.length_drop]at l1 l2
         have s5:mV P f.type=some true:=by simp[mV,p4]
         have jq:0<ts1.length:=List.length_pos_iff.2 eY.2
         have K1:off+ts1.length<=xs.length:=ab
         have hy1:off+ts1.length<=ys.length:=ab
         rw[List.drop_take,List.drop_drop,List.drop_take,List.drop_drop]at h2
         rw[List.take_take,List.take_take]at h1
         simp only[List.length_append]at h1 h2
         rw[Nat.min_eq_left ab]at h1
         have e2:ts1.length+Lc.length-ts1.length=Lc.length:=ab
         rw[e2]at h2
         have:=ih (off+ts1.length) Lc hr N hN xs ys vs us d' hx hy h2
         have fJ:=ihd fs'.toList 0 ts1 hts1 (N-1) ab _ _ _ _ c (hx.part off ts1.length K1) (hy.part off ts1.length hy1) (by simpa[List.take_take]using h1)
         have hN':N-1+1=N:=ab
         rw[hN']at fJ
         have KK:P.fieldsOf f.type=fs':=by simp[Program.fieldsOf,p4]
         simp only[Op.eqFields,if_pos gU,Sem.run_bind,ho,oq s5 eY.1,Result.andThen_ok,Sem.run_ite]
         rw[run_equalIn_struct w N f.type _ _ (by rw[KK];exact p4) (by simpa using eB),KK,fJ]
         cases c<;>simp[this]
        ·simp at hf
       ·simp at hf
      ·simp at hf
     ·simp at hf
   ·simp at hf
theorem PR {x y:Operand} {x' y':O} {t yt:TypeId} {neg:Bool} {s:TS} {b:Bool} (E:bI P w D ι env a) (ho:o.op=.binOp (if neg then .neq else .eql) t x y yt) (hs:eZ P t=some s) (hx:cO P x=some x') (hy:cO P y=some y')
  (hv:fZ s (cE env x') (cE env y')=some b):np P a o w D ι (.bool (du neg b)):=by
 have rx:=cN E hx
 have ry:=cN E hy
 refine⟨.bool (du neg b),?_,.eK _ _ (.bool _)⟩
 have e0:(eqGuard (if neg then .neq else .eql) t x y (a.eval x) (a.eval y)).run P w=.ok () w:=by
  unfold fZ at hv
  split at hv
  ·rename_i k n k' m h1 h2
   rw[h1]at rx;rw[h2]at ry
   rw[dj rx,dj ry];unfold eqGuard;cases neg<;>simp
  ·rename_i n m h1 h2
   rw[h1]at rx;rw[h2]at ry
   rw[eS rx,eS ry];unfold eqGuard;cases neg<;>simp
  ·rename_i n m h1 h2
   rw[h1]at rx;rw[h2]at ry
   rw[eV rx,eV ry];unfold eqGuard;cases neg<;>simp
  ·simp at hv
 have e1:(binOp (if neg then .neq else .eql) t (a.eval x) (a.eval y)).run P w=.ok (.bool (du neg b)) w:=by
  have q:=qx (d:=9999) rx ry hv hs
  unfold fZ at hv
  split at hv
  ·rename_i k n k' m h1 h2
   split at hv
   ·rename_i hk
    subst hk
    simp at hv;subst hv
    rw[h1]at rx;rw[h2]at ry
    rw[dj rx,dj ry]
    cases neg<;>simp only[binOp,ne_eq,not_true_eq_false,if_false,Op.intCmp,du,if_true,Bool.false_eq_true]<;>simp[bne]<;>rfl
   ·simp at hv
  ·rename_i n m h1 h2
   rw[h1]at rx;rw[h2]at ry
   rw[eS rx,eS ry]at q ⊢
   cases neg<;>simp only[binOp,du,if_true,Bool.false_eq_true,if_false,Sem.run_bind]<;>simp[Op.equal,Op.maxDepth,q]
  ·rename_i n m h1 h2
   simp at hv;subst hv
   rw[h1]at rx;rw[h2]at ry
   rw[eV rx,eV ry]
   cases neg<;>simp[binOp,Op.stringOp,du,DF]
  ·simp at hv
 simp only[execOp,ho,Sem.run_bind,e0,e1,Result.andThen_ok,Sem.run_pure]
theorem PO {x y:Operand} {x' y':O} {t yt:TypeId} {neg:Bool} {ts:List TS} {fs:Array Field} {xs ys:List AV} {b:Bool} (E:bI P w D ι env a) (ho:o.op=.binOp (if neg then .neq else .eql) t x y yt) (p4:P.underlying t=some (.struct fs)) (eB:P.stoodInHeld t=false) (Jm:P.eqGuardType P.depth t=false)
  (vH:ef P 4 0 fs.toList=some ts) (hx:cO P x=some x') (hy:cO P y=some y') (h1:cE env x'=.agg xs) (h2:cE env y'=.agg ys)
  (hv:e8 ts xs ys=some b):np P a o w D ι (.bool (du neg b)):=by
 obtain⟨vs,f,rx,n1,_,f1,r1⟩:=iv (h1▸cN E hx)
 obtain⟨us,f',ry,n2,_,f2,r2⟩:=iv (h2▸cN E hy)
 refine⟨.bool (du neg b),?_,.eK _ _ (.bool _)⟩
 obtain⟨l1,l2⟩:=pV hv
 have L:∀(xs:List AV) (vs:Array Value) (f:Nat->Value),vs.size=xs.length->(∀j,j<xs.length->vs[j]? =some (f j))->(∀j a,xs[j]? =some a->cG P w D ι a (f j))->e7 P w D ι xs vs:=fun xs vs f h1 h2 h3=>
  ⟨h1,fun j a ha=>⟨f j,h2 j (List.getElem?_eq_some_iff.1 ha).1,h3 j a ha⟩⟩
 have q:=qw (w:=w) 4 fs.toList 0 ts vH 9998 ab xs ys vs us b (L _ _ _ n1 f1 r1) (L _ _ _ n2 f2 r2) (by simpa[List.take_of_length_le,l1,l2]using hv)
 have KK:P.fieldsOf t=fs:=by simp[Program.fieldsOf,p4]
 have q2:(Op.equal t (.agg vs) (.agg us)).run P w=.ok b w:=by
  unfold Op.equal
  rw[show Op.maxDepth=9999+1 from rfl,run_equalIn_struct w 9999 t _ _ (by rw[KK];exact p4) eB,KK,q]
 simp only[execOp,ho,Sem.run_bind,rx,ry,run_eqGuard_agg w _ _ _ _ _ _ Jm,Result.andThen_ok]
 cases neg<;>simp[binOp,q2,du]
theorem Ng {x:Operand} {x':O} {t yt e:TypeId} {neg:Bool} {b:Bool} (E:bI P w D ι env a) (ho:o.op=.binOp (if neg then .neq else .eql) t x (.const (.slice none 0 0)) yt) (ht:P.underlying t=some (.slice e)) (hx:cO P x=some x')
  (hv:cY (cE env x')=some b):np P a o w D ι (.bool (du neg b)):=by
 have hr:=cN E hx
 have rx:∃A n c,a.eval x=.slice A n c/\b=A.isNone:=by
  unfold cY at hv
  split at hv<;>simp at hv<;>subst hv<;>rename_i hh
  ·rw[hh]at hr;exact⟨_,_,_,jL hr,rfl⟩
  ·rw[hh]at hr;obtain⟨o,cap,B,h,_⟩:=ja hr
   exact⟨_,_,_,h,rfl⟩
  ·rw[hh]at hr
   obtain⟨A,c,h',_,_,h⟩:=uz hr
   rcases h with h|⟨b,o,sz,vs,rfl,_⟩
   ·simp at h
   ·exact⟨_,_,_,h',rfl⟩
 refine⟨.bool (du neg b),?_,.eK _ _ (.bool _)⟩
 obtain⟨A,n,c,h,rfl⟩:=rx
 have hq:(Op.equal t (.slice A n c) (.slice none 0 0)).run P w=.ok A.isNone w:=by
  unfold Op.equal
  rw[show Op.maxDepth=9999+1 from rfl,Op.equalIn]
  simp only[Sem.run_bind,run_underlying ht,Result.andThen_ok]
  cases A<;>rfl
 have hc:a.eval (.const (.slice none 0 0))=.slice none 0 0:=rfl
 simp only[execOp,ho,h,hc]
 cases neg<;>simp only[Bool.false_eq_true,if_false,if_true,Bool.not_true,Bool.not_false,eqGuard,binOp,du,Sem.run_bind,hq,Result.andThen_ok,Sem.run_pure]
theorem PQ {x:Operand} {x':O} {t yt e:TypeId} {neg:Bool} {b:Bool} (E:bI P w D ι env a) (ho:o.op=.binOp (if neg then .neq else .eql) t x (.const (.pointer none)) yt) (ht:P.underlying t=some (.pointer e)) (hx:cO P x=some x')
  (hv:H7 (cE env x')=some b):np P a o w D ι (.bool (du neg b)):=by
 have hr:=cN E hx
 have rx:∃A,a.eval x=.pointer A/\b=A.isNone:=by
  unfold H7 at hv
  split at hv<;>simp at hv<;>subst hv<;>rename_i hh
  ·rw[hh]at hr;exact⟨_,HD hr,rfl⟩
  ·rw[hh]at hr;obtain⟨B,h,_⟩:=jb hr
   exact⟨_,h,rfl⟩
  ·rw[hh]at hr;obtain⟨_,_,_,h,_⟩:=kA hr
   exact⟨_,h,rfl⟩
 refine⟨.bool (du neg b),?_,.eK _ _ (.bool _)⟩
 obtain⟨A,h,rfl⟩:=rx
 have hq:(Op.equal t (.pointer A) (.pointer none)).run P w=.ok A.isNone w:=by
  unfold Op.equal
  rw[show Op.maxDepth=9999+1 from rfl,Op.equalIn]
  simp only[Sem.run_bind,run_underlying ht,Result.andThen_ok]
  cases A<;>rfl
 have hc:a.eval (.const (.pointer none))=.pointer none:=rfl
 simp only[execOp,ho,h,hc]
 cases neg<;>simp only[Bool.false_eq_true,if_false,if_true,Bool.not_true,Bool.not_false,eqGuard,binOp,du,Sem.run_bind,hq,Result.andThen_ok,Sem.run_pure]
theorem Nf {x:Operand} {x':O} {t yt:TypeId} {p r:Array TypeId} {va:Bool} {neg:Bool} {b:Bool} (E:bI P w D ι env a) (ho:o.op=.binOp (if neg then .neq else .eql) t x (.const .nilFunc) yt) (ht:P.underlying t=some (.func p r va)) (hx:cO P x=some x')
  (hv:cX (cE env x')=some b):np P a o w D ι (.bool (du neg b)):=by
 have hr:=cN E hx
 have rx:a.eval x=.nilFunc/\b=true∨∃f c,a.eval x=.func f #[] c/\b=false:=by
  unfold cX at hv
  split at hv<;>simp at hv<;>subst hv<;>rename_i hh
  ·rw[hh]at hr;exact .inl ⟨uy hr,rfl⟩
  ·rw[hh]at hr;obtain⟨vs,g,h,_⟩:=Ck hr
   exact .inr ⟨_,_,h,rfl⟩
 refine⟨.bool (du neg b),?_,.eK _ _ (.bool _)⟩
 have hc:a.eval (.const .nilFunc)=.nilFunc:=rfl
 rcases rx with⟨h,rfl⟩|⟨f,c,h,rfl⟩
 ·have hq:(Op.equal t .nilFunc .nilFunc).run P w=.ok true w:=by
   unfold Op.equal
   rw[show Op.maxDepth=9999+1 from rfl,Op.equalIn]
   simp only[Sem.run_bind,run_underlying ht,Result.andThen_ok]
   rfl
  simp only[execOp,ho,h,hc]
  cases neg<;>simp only[Bool.false_eq_true,if_false,if_true,Bool.not_true,Bool.not_false,eqGuard,binOp,du,Sem.run_bind,hq,Result.andThen_ok,Sem.run_pure]
 ·have hq:(Op.equal t (.func f #[] c) .nilFunc).run P w=.ok false w:=by
   unfold Op.equal
   rw[show Op.maxDepth=9999+1 from rfl,Op.equalIn]
   simp only[Sem.run_bind,run_underlying ht,Result.andThen_ok]
   rfl
  simp only[execOp,ho,h,hc]
  cases neg<;>simp only[Bool.false_eq_true,if_false,if_true,Bool.not_true,Bool.not_false,eqGuard,binOp,du,Sem.run_bind,hq,Result.andThen_ok,Sem.run_pure]
theorem PU {x:Operand} {x':O} {t:TypeId} (E:bI P w D ι env a) (ho:o.op=.unOp .not t x) (hx:cO P x=some x') (hv:er (cE env x')=some v):np P a o w D ι v:=by
 have hr:=cN E hx
 unfold er at hv
 split at hv
 ·rename_i b hb
  simp at hv;subst hv
  rw[hb]at hr
  exact⟨_,by simp only[execOp,ho,eS hr];rfl,.eK _ _ (.bool _)⟩
 ·simp at hv
theorem PT {x:Operand} {x':O} {t:TypeId} (E:bI P w D ι env a) (ho:o.op=.unOp .neg t x) (hx:cO P x=some x') (hv:eo (cE env x')=some v):np P a o w D ι v:=by
 have hr:=cN E hx
 unfold eo at hv
 split at hv
 ·rename_i k n hb
  simp at hv;subst hv
  rw[hb]at hr
  refine⟨_,by simp only[execOp,ho,dj hr];rfl,?_⟩
  rw[Int.zero_sub];exact .eK _ _ (.int _ _)
 ·simp at hv
theorem Nd {x:Operand} {x':O} {s d:TypeId} {k q:IntKind} (E:bI P w D ι env a) (ho:o.op=.convert s d x) (hs:P.underlying s=some (.int q)) (hd:P.underlying d=some (.int k)) (hx:cO P x=some x') (hv:cP k (cE env x')=some v):np P a o w D ι v:=by
 have hr:=cN E hx
 unfold cP at hv
 split at hv
 ·rename_i k' n hb
  simp at hv;subst hv
  rw[hb]at hr
  refine⟨.int k (k.wrap n),?_,.eK _ _ (.int _ _)⟩
  simp only[execOp,ho,dj hr,convert,Sem.run_bind,run_underlying hs,run_underlying hd,Result.andThen_ok,Conv.intToInt,Sem.run_pure]
 ·simp at hv
theorem Ku {x:Operand} {x':O} {s:TypeId} {i:Nat} {fs:Array Field} {f:Field} {m:Nat} (E:bI P w D ι env a) (ho:o.op=.fieldAddr s x i) (hs:P.underlying s=some (.struct fs)) (hf:fs[i]? =some f) (hm:dK P f.type=some (m+1)) (hx:cO P x=some x')
  (hv:CI f.offset (cE env x')=some v):np P a o w D ι v:=by
 have hr:=cN E hx
 have go:∀b oo,a.eval x=.pointer (some ⟨b,oo,none⟩)->(execOp a.eval o).run P w=.ok (.value (.pointer (some ⟨b,oo+f.offset,none⟩))) w:=fun b oo h=>by
  simp only[execOp,ho,h,Instr.fieldAt,Sem.run_bind,run_underlying hs,Result.andThen_ok,hf,Instr.sureAddr,Sem.run_pure,fieldPlace,run_sizeOf hm,Nat.add_eq_zero_iff,Nat.one_ne_zero,and_false,if_false,Addr.add]
  split
  ·rename_i h0;simp[h0]
  ·rfl
 unfold CI at hv
 split at hv
 ·rename_i ki i' oo hb
  simp at hv;subst hv
  rw[hb]at hr
  obtain⟨B,h,hB,hk⟩:=jb hr
  refine⟨_,go _ _ h,?_⟩
  rw[Nat.add_assoc]
  exact .ptr _ _ _ _ hB hk
 ·rename_i cs hb
  simp at hv;subst hv
  rw[hb]at hr
  obtain⟨b,oo,vs,h,h1,h2,h3,h4⟩:=kA hr
  refine⟨_,go _ _ h,.eK _ _ (.de _ _ _ (fun j=>vs (f.offset+j)) h1 (fun a ha=>h2 a (List.mem_of_mem_drop ha)) (fun j hj=>?_) (fun j a ha=>h4 _ _ (by simpa using ha)))⟩
  rw[Nat.add_assoc]
  exact h3 _ (by simp at hj;omega)
 ·simp at hv
theorem Kv {x:Operand} {x':O} {s:TypeId} {i n:Nat} {ag:Bool} {fs:Array Field} {f:Field} (E:bI P w D ι env a) (ho:o.op=.field s x i) (hs:P.underlying s=some (.struct fs)) (hf:fs[i]? =some f) (s5:mV P f.type=some ag) (hm:dK P f.type=some n) (hx:cO P x=some x')
  (hv:bL ag f.offset n (cE env x')=some v):np P a o w D ι v:=by
 have hr:=cN E hx
 unfold bL at hv
 split at hv
 ·rename_i cs hb
  split at hv
  ·rename_i hl
   rw[hb]at hr
   obtain⟨vs,g,h,n1,fl,f1,r1⟩:=iv hr
   unfold part at hv
   cases ag with
   |true=>
    simp only[if_true]at hv
    split at hv
    ·simp at hv;subst hv
     refine⟨.agg (vs.extract f.offset (f.offset+n)),?_,.agg _ _ (fun j=>g (f.offset+j)) (by simp[n1];omega) (fun a ha=>fl a (List.mem_of_mem_drop (List.mem_of_mem_take ha))) (fun j hj=>?_) (fun j a ha=>?_)⟩
     ·simp only[execOp,ho,h,Instr.field,Sem.run_bind,run_underlying hs,Result.andThen_ok,hf,asAgg,Sem.run_pure,oq s5 hm]
     ·simp at hj
      rw[Array.getElem?_extract,if_pos ab];exact f1 _ ab
     ·rw[List.getElem?_take]at ha
      split at ha
      ·exact r1 _ _ (by simpa using ha)
      ·simp at ha
    ·simp at hv
   |false=>
    simp only[Bool.false_eq_true,if_false]at hv
    have mZ:cs[f.offset]? =some v:=by simpa[List.head?_drop]using hv
    have dR:=(List.getElem?_eq_some_iff.1 mZ).1
    exact⟨g f.offset,by simp only[execOp,ho,h,Instr.field,Sem.run_bind,run_underlying hs,Result.andThen_ok,hf,asAgg,Sem.run_pure,lL s5 (f1 _ dR)],r1 _ _ mZ⟩
  ·simp at hv
 ·simp at hv
theorem PV {left:Bool} {x y:Operand} {x' y':O} {t yt:TypeId} (E:bI P w D ι env a) (ho:o.op=.binOp (if left then .shl else .shr) t x y yt) (hx:cO P x=some x') (hy:cO P y=some y') (hv:ij left (cE env x') (cE env y')=some v):np P a o w D ι v:=by
 unfold ij at hv
 split at hv
 ·rename_i k n k' m hb rn
  split at hv
  ·simp at hv
  ·rename_i hm
   simp at hv;subst hv
   have h1:=dj (hb▸cN E hx)
   have h2:=dj (rn▸cN E hy)
   refine⟨_,?_,.eK _ _ (.int _ _)⟩
   simp only[execOp,ho,h1,h2]
   cases left<;>simp only[Bool.false_eq_true,if_false,if_true,eqGuard,Bool.not_true,Bool.not_false,binOp,Op.shift,hm,Sem.run_bind,Sem.run_pure,Result.andThen_ok]<;>rfl
 ·simp at hv
end
end Go.Proofs.YtihgaadadaekmaaGreat.V

namespace Go.Proofs.YtihgaadadaekmaaGreat.V
open Go.RowKit
variable {P:Program} {w w':World} {D D':Nat->Prop} {ι ι':Names}
theorem jP (b o j:Nat):(⟨b,o,none⟩:Addr).add j=⟨b,o+j,none⟩:=by unfold Addr.add;split<;>simp_all
section
variable {g:Rows} {hs:Nat} {env:Env} {a:Act} {o:Oper} {id:Id} {v:AV}
theorem j8 {t:TypeId} {ag:Bool} {n b oo:Nat} {cs:List AV} {v:AV} {f:Nat->Value} (s5:mV P t=some ag) (hn:dK P t=some n) (hp:part ag n cs=some v) (fl:∀a∈cs,a.cell=true)
  (hc:∀j,j<cs.length->w.cell? ⟨b,oo+j,none⟩=some (f j)) (hr:∀j a,cs[j]? =some a->cG P w D ι a (f j)):∃u,(loadVar t ⟨b,oo,none⟩).run P w=.ok u w/\cG P w D ι v u:=by
 unfold part at hp
 cases ag with
 |true=>
  simp only[if_true]at hp
  split at hp
  ·rename_i hl
   simp at hp;subst hp
   refine⟨.agg ((List.range n).map f).toArray,?_,.agg _ _ f (by simp;omega) (fun a ha=>fl a (List.mem_of_mem_take ha)) (fun j hj=>?_) (fun j a ha=>?_)⟩
   ·simp only[loadVar,Sem.run_bind,rI s5,Result.andThen_ok,if_true,run_sizeOf hn,Sem.run_pure]
    rw[run_loadCells w _ n f (fun j hj=>by rw[jP];exact hc j ab)]
    rfl
   ·simp at hj
    have:j<n:=ab
    simp[this]
   ·rw[List.getElem?_take]at ha
    split at ha
    ·exact hr _ _ ha
    ·simp at ha
  ·simp at hp
 |false=>
  simp only[Bool.false_eq_true,if_false]at hp
  cases cs with
  |nil=>simp at hp
  |cons c r=>
   simp at hp;subst hp
   refine⟨f 0,?_,hr 0 _ rfl⟩
   simp only[loadVar,Sem.run_bind,rI s5,Result.andThen_ok,Bool.false_eq_true,if_false]
   have:=hc 0 (by simp)
   simp at this
   rw[run_load,this]
theorem HI {S:fW P hs D ι g w} {i:Nat} {cs:List AV} (h:rowAt g id i=some cs) (hk:∀B,ι id=some B->B.k=none):∃B r,g id=some r/\ι id=some B/\kS P w D ι B r/\r.rows[i]? =some cs/\(∀a∈cs,a.cell=true)/\∃f:Nat->Value,∀j,j<cs.length->w.cell? ⟨B.b,i*B.sz+j,none⟩=some (f j)/\∀a,cs[j]? =some a->cG P w D ι a (f j):=by
 unfold rowAt at h
 simp only[Option.bind_eq_some_iff]at h
 obtain⟨r,hr,hi⟩:=h
 obtain⟨B,hB,R,_,_⟩:=S.row id r hr
 replace R:=R.row (hk B hB)
 refine⟨B,r,hr,hB,R,hi,R.flat cs (List.mem_of_getElem? hi),fun j=>(w.cell? ⟨B.b,i*B.sz+j,none⟩).getD undef,fun j hj=>?_⟩
 obtain⟨u,hu,vG⟩:=R.at_ i j cs _ hi (List.getElem?_eq_getElem hj)
 rw[R.sz,hu]
 refine⟨by simp only[hu,Option.getD_some],fun a ha=>?_⟩
 rw[List.getElem?_eq_getElem hj]at ha
 injection ha with ha
 subst ha
 simpa only[hu,Option.getD_some]using vG
theorem Nm {x:Operand} {x':O} {t:TypeId} {ag:Bool} {n:Nat} (S:fW P hs D ι g w) (E:bI P w D ι env a) (ho:o.op=.load t x) (s5:mV P t=some ag) (hn:dK P t=some n) (hx:cO P x=some x') (hv:ld g ag n (cE env x')=some v):np P a o w D ι v:=by
 have hr:=cN E hx
 have go:∀b oo u,a.eval x=.pointer (some ⟨b,oo,none⟩)->(loadVar t ⟨b,oo,none⟩).run P w=.ok u w->(execOp a.eval o).run P w=.ok (.value u) w:=fun b oo u h h2=>by
  simp only[execOp,ho,h,Instr.loadAt,Instr.sureAddr,Sem.run_bind,Sem.run_pure,Result.andThen_ok,h2]
 unfold ld at hv
 split at hv
 ·rename_i ki i' oo hb
  rw[hb]at hr
  obtain⟨B,h,hB,hk⟩:=jb hr
  simp only[Option.bind_eq_some_iff]at hv
  obtain⟨cs,dn,hp⟩:=hv
  obtain⟨B',r,FP,dz,R,hi,fl,f,hf⟩:=HI (S:=S) dn (fun B2 h2=>by rw[hB]at h2;injection h2 with h2;subst h2;exact hk)
  rw[hB]at dz;injection dz with dz;subst dz
  obtain⟨u,h1,h2⟩:=j8 (w:=w) (b:=B.b) (oo:=i'*B.sz+oo) (f:=fun j=>f (oo+j)) s5 hn hp (fun a ha=>fl a (List.mem_of_mem_drop ha)) (fun j hj=>by
   rw[Nat.add_assoc];exact(hf _ (by simp at hj;omega)).1) (fun j a ha=>by
   simp at ha;exact(hf _ ((List.getElem?_eq_some_iff.1 ha).1)).2 _ ha)
  exact⟨u,go _ _ _ h h1,h2⟩
 ·rename_i cs hb
  rw[hb]at hr
  obtain⟨b,oo,vs,h,h1,h2,h3,h4⟩:=kA hr
  obtain⟨u,k1,k2⟩:=j8 (w:=w) (b:=b) (oo:=oo) (f:=vs) s5 hn hv h2 h3 (fun j a ha=>.eK _ _ (h4 j a ha))
  exact⟨u,go _ _ _ h k1,k2⟩
 ·simp at hv
theorem PN {x:Operand} {x':O} (E:bI P w D ι env a) (ho:o.op=.nilCheck x) (hx:cO P x=some x') (hv:ej (cE env x')=some v):np P a o w D ι v:=by
 have hr:=cN E hx
 unfold ej at hv
 split at hv
 ·rename_i ki i' oo hb
  simp at hv;subst hv
  rw[hb]at hr
  obtain⟨B,h,hB,hk⟩:=jb hr
  exact⟨_,by simp only[execOp,ho,h];rfl,.ptr _ _ _ _ hB hk⟩
 ·rename_i cs hb
  simp at hv;subst hv
  rw[hb]at hr
  obtain⟨b,oo,vs,h,_⟩:=kA hr
  exact⟨_,by simp only[execOp,ho,h];rfl,h▸hr⟩
 ·simp at hv
theorem Kw {x i:Operand} {x' i':O} {t e:TypeId} {m:Nat} (S:fW P hs D ι g w) (E:bI P w D ι env a) (ho:o.op=.indexAddr t x i) (ht:P.underlying t=some (.slice e)) (hm:dK P e=some (m+1)) (hx:cO P x=some x') (hi:cO P i=some i')
  (hv:bP g (m+1) (cE env x') (cE env i')=some v):np P a o w D ι v:=by
 have hr:=cN E hx
 have BJ:=cN E hi
 have go:∀b oo n c k (q:Int),a.eval x=.slice (some ⟨b,oo,none⟩) n c->a.eval i=.int k q->0<=q->q<n->(execOp a.eval o).run P w=.ok (.value (.pointer (some ⟨b,oo+q.toNat*(m+1),none⟩))) w:=fun b oo n c k q h h2 h3 h4=>by
  simp only[execOp,ho,h,h2,Instr.indexAt,asIntOf,Sem.run_bind,Sem.run_pure,run_underlying ht,Result.andThen_ok,h3,h4,and_self,if_true,run_sizeOf hm,jP]
 unfold bP at hv
 split at hv
 ·rename_i rows k q hb rn
  split at hv
  ·rename_i hq
   simp only[Option.bind_eq_some_iff]at hv
   obtain⟨cs,dn,hv⟩:=hv
   split at hv
   ·rename_i hlen
    simp at hv;subst hv
    rw[hb]at hr;rw[rn]at BJ
    have dR:=(List.getElem?_eq_some_iff.1 dn).1
    obtain⟨A,c,h,h1,h2,h3⟩:=uz hr
    rcases h3 with h3|⟨b,oo,sz,vs,rfl,hD,hl,fl,hc,hi⟩
    ·subst h3;simp at dn
    have eY:sz=m+1:=by rw[<-hlen,hl cs (List.mem_of_getElem? dn)]
    refine⟨_,go b oo _ _ k q h (dj BJ) hq ab,.eK _ _ (.de cs b _ (vs q.toNat) hD (fl cs (List.mem_of_getElem? dn)) (fun j hj=>?_) (fun j a ha=>hi _ _ _ _ dn ha))⟩
    have:=hc q.toNat j dR (by rw[<-hl cs (List.mem_of_getElem? dn)];exact hj)
    rw[eY]at this
    rw[Nat.add_assoc];exact this
   ·simp at hv
  ·simp at hv
 ·rename_i ki off len k q hb rn
  split at hv
  ·rename_i hq
   simp only[Option.bind_eq_some_iff]at hv
   obtain⟨r,FP,hv⟩:=hv
   split at hv
   ·rename_i wE
    simp at hv;subst hv
    rw[hb]at hr;rw[rn]at BJ
    obtain⟨oo,cap,B,h,hB,h1,h2,h3,h4,hk⟩:=ja hr
    obtain⟨B',dz,R,_,_⟩:=S.row _ _ FP
    rw[hB]at dz;injection dz with dz;subst dz
    replace R:=R.row hk
    have eY:B.sz=m+1:=R.sz.trans wE
    refine⟨_,go _ _ _ _ k q h (dj BJ) hq.1 hq.2,?_⟩
    have Aw:oo=off*B.sz:=by rcases h2 with h2|h2<;>omega
    have:oo+q.toNat*(m+1)=(off+q.toNat)*B.sz+0:=by rw[Aw,<-eY,Nat.add_mul];rfl
    rw[this]
    exact .ptr _ _ _ _ hB hk
   ·simp at hv
  ·simp at hv
 ·simp at hv
theorem Nh {x i:Operand} {x' i':O} {t e:TypeId} {m len:Nat} (E:bI P w D ι env a) (ho:o.op=.indexAddr t x i) (ht:P.underlying t=some (.array len e)) (hm:dK P e=some (m+1)) (hx:cO P x=some x') (hi:cO P i=some i')
  (hv:cQ len (m+1) (cE env x') (cE env i')=some v):np P a o w D ι v:=by
 have hr:=cN E hx
 have BJ:=cN E hi
 have go:∀b oo k (q:Int),a.eval x=.pointer (some ⟨b,oo,none⟩)->a.eval i=.int k q->0<=q->q<len->(execOp a.eval o).run P w=.ok (.value (.pointer (some ⟨b,oo+q.toNat*(m+1),none⟩))) w:=fun b oo k q h h2 h3 h4=>by
  simp only[execOp,ho,h,h2,Instr.indexAt,asIntOf,Sem.run_bind,Sem.run_pure,run_underlying ht,Instr.sureAddr,Result.andThen_ok,h3,h4,and_self,if_true,run_sizeOf hm,jP]
 unfold cQ at hv
 split at hv
 ·rename_i ki r oo k q hb rn
  split at hv
  ·rename_i hq
   simp at hv;subst hv
   rw[hb]at hr;rw[rn]at BJ
   obtain⟨B,h,hB,hk⟩:=jb hr
   refine⟨_,go _ _ k q h (dj BJ) hq.1 hq.2,?_⟩
   rw[Nat.add_assoc]
   exact .ptr _ _ _ _ hB hk
  ·simp at hv
 ·rename_i cs k q hb rn
  split at hv
  ·rename_i hq
   simp at hv;subst hv
   rw[hb]at hr;rw[rn]at BJ
   obtain⟨b,oo,vs,h,h1,h2,h3,h4⟩:=kA hr
   refine⟨_,go _ _ k q h (dj BJ) hq.1 hq.2,.eK _ _ (.de _ _ _ (fun j=>vs (q.toNat*(m+1)+j)) h1 (fun a ha=>h2 a (List.mem_of_mem_drop ha)) (fun j hj=>?_) (fun j a ha=>h4 _ _ (by simpa using ha)))⟩
   rw[Nat.add_assoc]
   exact h3 _ (by simp at hj;omega)
  ·simp at hv
 ·simp at hv
theorem Nj {x i:Operand} {x' i':O} {t:TypeId} (E:bI P w D ι env a) (ho:o.op=.index t x i) (ht:P.underlying t=some .string) (hx:cO P x=some x') (hi:cO P i=some i')
  (hv:cT (cE env x') (cE env i')=some v):np P a o w D ι v:=by
 have hr:=cN E hx
 have BJ:=cN E hi
 unfold cT at hv
 split at hv
 ·rename_i s k q hb rn
  split at hv
  ·rename_i hq
   simp only[Option.map_eq_some_iff]at hv
   obtain⟨c,hc,rfl⟩:=hv
   rw[hb]at hr;rw[rn]at BJ
   refine⟨_,?_,.eK _ _ (.int _ _)⟩
   simp only[execOp,ho,eV hr,dj BJ,Instr.index,asIntOf,Sem.run_bind,Sem.run_pure,run_underlying ht,Result.andThen_ok,hq,if_true,hc]
  ·simp at hv
 ·simp at hv
theorem Ni {x i:Operand} {x' i':O} {t e:TypeId} {ag:Bool} {len n:Nat} (E:bI P w D ι env a) (ho:o.op=.index t x i) (ht:P.underlying t=some (.array len e)) (s5:mV P e=some ag) (hn:dK P e=some n) (hx:cO P x=some x') (hi:cO P i=some i')
  (hv:cR ag len n (cE env x') (cE env i')=some v):np P a o w D ι v:=by
 have hr:=cN E hx
 have BJ:=cN E hi
 unfold cR at hv
 split at hv
 ·rename_i cs k q hb rn
  split at hv
  ·rename_i hq
   rw[hb]at hr;rw[rn]at BJ
   obtain⟨vs,f,h,n1,fl,f1,r1⟩:=iv hr
   have go:∀u,(Go.part e vs (q.toNat*n)).run P w=.ok u w->(execOp a.eval o).run P w=.ok (.value u) w:=fun u hu=>by
    simp only[execOp,ho,h,dj BJ,Instr.index,asIntOf,Sem.run_bind,Sem.run_pure,run_underlying ht,Result.andThen_ok,hq,and_self,if_true,run_sizeOf hn,hu]
   unfold part at hv
   cases ag with
   |true=>
    simp only[if_true]at hv
    split at hv
    ·rename_i hl
     simp at hv;subst hv
     simp only[List.length_drop]at hl
     by_cases IA:n=0
     ·subst IA
      refine⟨_,go _ (oq s5 hn),.agg _ _ (fun _=>undef) (by simp) (fun a ha=>by simp at ha) (fun j hj=>by simp at hj) (fun j a ha=>by simp at ha)⟩
     refine⟨_,go _ (oq s5 hn),.agg _ _ (fun j=>f (q.toNat*n+j)) (by simp[n1];omega) (fun a ha=>fl a (List.mem_of_mem_drop (List.mem_of_mem_take ha))) (fun j hj=>?_) (fun j a ha=>?_)⟩
     ·simp at hj
      rw[Array.getElem?_extract,if_pos ab];exact f1 _ ab
     ·rw[List.getElem?_take]at ha
      split at ha
      ·exact r1 _ _ (by simpa using ha)
      ·simp at ha
    ·simp at hv
   |false=>
    simp only[Bool.false_eq_true,if_false]at hv
    have mZ:cs[q.toNat*n]? =some v:=by simpa[List.head?_drop]using hv
    have dR:=(List.getElem?_eq_some_iff.1 mZ).1
    exact⟨_,go _ (lL s5 (f1 _ dR)),r1 _ _ mZ⟩
  ·simp at hv
 ·simp at hv
theorem FM {x:Operand} {x':O} {i:Nat} (E:bI P w D ι env a) (ho:o.op=.extract x i) (hx:cO P x=some x') (hv:aQ i (cE env x')=some v):np P a o w D ι v:=by
 have hr:=cN E hx
 unfold aQ at hv
 split at hv
 ·rename_i vs hb
  rw[hb]at hr
  obtain⟨us,f,h,h1,h2,h3⟩:=tb hr
  have dR:=(List.getElem?_eq_some_iff.1 hv).1
  exact⟨_,by simp only[execOp,ho,h,Instr.extract,h2 _ dR];rfl,h3 _ _ hv⟩
 ·simp at hv
theorem PS {x:Operand} {x':O} {t:TypeId} {e:TypeId} {n:Nat} (E:bI P w D ι env a) (ho:o.op=.call {callee:=.builtin .len,args:= #[x],argTypes:= #[t]}) (ht:P.underlying t=some (.slice e)) (hx:cO P x=some x') (hv:ek (cE env x')=some n):np P a o w D ι (.int .i64 n):=by
 have hr:=cN E hx
 have go:∀A c,a.eval x=.slice A n c->(execOp a.eval o).run P w=.ok (.value (.int .i64 n)) w:=fun A c h=>by
  simp only[execOp,ho,resolve,Sem.run_bind,Sem.run_pure,Result.andThen_ok,invoke,builtin,Array.map,h]
  simp[Builtin.len_,run_underlying ht,goInt,h]
 refine⟨.int .i64 n,?_,.eK _ _ (.int _ _)⟩
 unfold ek at hv
 split at hv<;>simp at hv<;>subst hv<;>rename_i hb<;>rw[hb]at hr
 ·exact go _ _ (jL hr)
 ·obtain⟨A,c,h,_⟩:=uz hr;exact go _ _ h
 ·obtain⟨oo,cap,B,h,_⟩:=ja hr;exact go _ _ h
theorem Nl {x:Operand} {x':O} {t:TypeId} (E:bI P w D ι env a) (ho:o.op=.call {callee:=.builtin .len,args:= #[x],argTypes:= #[t]}) (ht:P.underlying t=some .string) (hx:cO P x=some x') (hv:cV (cE env x')=some v):np P a o w D ι v:=by
 have hr:=cN E hx
 unfold cV at hv
 split at hv
 ·rename_i s hb
  simp at hv;subst hv
  rw[hb]at hr
  have h:=eV hr
  refine⟨_,?_,.eK _ _ (.int _ _)⟩
  simp only[execOp,ho,resolve,Sem.run_bind,Sem.run_pure,Result.andThen_ok,invoke,builtin,Array.map,h]
  simp[Builtin.len_,run_underlying ht,goInt,h]
 ·simp at hv
theorem mj {isS:Bool} {len cap h l:Nat} {lo hi:Option Operand} {K3 pG:Option O} (E:bI P w D ι env a) (jS:pR P lo=some K3) (Ay:pR P hi=some pG) (hh:dU len (pG.map (cE env))=some h) (hl:dW h (K3.map (cE env))=some l) (hc:len<=cap):
  (Instr.sliceBounds isS len cap (lo.map a.eval) (hi.map a.eval) none).run P w=.ok (l,h,cap) w/\l<=h/\h<=len:=by
 have bound:∀(x:Operand) (y:O) (k:IntKind) (n:Int) (m:Nat) (c:BoundsCode),cO P x=some y->cE env y=.int k n->0<=n->n<=m->(Instr.sliceBound (a.eval x) m c).run P w=.ok n.toNat w:=fun x y k n m c hx hy h0 h1=>by
  have hr:=cN E hx
  rw[hy]at hr
  simp only[Instr.sliceBound,dj hr,asIntOf,Sem.run_bind,Sem.run_pure,Result.andThen_ok,h0,h1,and_self,if_true]
 have H:h<=len/\((hi=none/\h=len)∨∃x,hi=some x/\∀c,(Instr.sliceBound (a.eval x) cap c).run P w=.ok h w):=by
  cases hi with
  |none=>
   simp[pR]at Ay;subst Ay
   simp[dU]at hh;subst hh
   exact⟨Nat.le_refl _,.inl ⟨rfl,rfl⟩⟩
  |some x=>
   simp only[pR,Option.map_eq_some_iff]at Ay
   obtain⟨y,hy,rfl⟩:=Ay
   simp only[Option.map_some,dU]at hh
   split at hh
   ·rename_i e;cases e
   ·rename_i k n e
    injection e with e
    split at hh
    ·rename_i hn
     simp at hh;subst hh
     exact⟨ab,.inr ⟨x,rfl,fun c=>bound x y k n _ _ hy e hn.1 ab⟩⟩
    ·simp at hh
   ·simp at hh
 have L:l<=h/\((lo=none/\l=0)∨∃x,lo=some x/\∀c,(Instr.sliceBound (a.eval x) h c).run P w=.ok l w):=by
  cases lo with
  |none=>
   simp[pR]at jS;subst jS
   simp[dW]at hl;subst hl
   exact⟨Nat.zero_le _,.inl ⟨rfl,rfl⟩⟩
  |some x=>
   simp only[pR,Option.map_eq_some_iff]at jS
   obtain⟨y,hy,rfl⟩:=jS
   simp only[Option.map_some,dW]at hl
   split at hl
   ·rename_i e;cases e
   ·rename_i k n e
    injection e with e
    split at hl
    ·rename_i hn
     simp at hl;subst hl
     exact⟨ab,.inr ⟨x,rfl,fun c=>bound x y k n h _ hy e hn.1 hn.2⟩⟩
    ·simp at hl
   ·simp at hl
 refine⟨?_,L.1,H.1⟩
 unfold Instr.sliceBounds
 rcases H.2 with⟨rfl,rfl⟩|⟨x,rfl,hx⟩<;>rcases L.2 with⟨rfl,rfl⟩|⟨y,rfl,hy⟩<;>
  simp only[Option.map_none,Option.map_some,Sem.run_bind,Sem.run_pure,Result.andThen_ok, *]
theorem Kx {x:Operand} {x':O} {lo hi:Option Operand} {K3 pG:Option O} {t e:TypeId} {m:Nat} (S:fW P hs D ι g w) (E:bI P w D ι env a) (ho:o.op=.slice t x lo hi none) (ht:P.underlying t=some (.slice e)) (hm:dK P e=some m) (hx:cO P x=some x') (jS:pR P lo=some K3) (Ay:pR P hi=some pG)
  (hv:bQ g m (cE env x') (K3.map (cE env)) (pG.map (cE env))=some v):np P a o w D ι v:=by
 have hr:=cN E hx
 have go:∀A len cap l h,a.eval x=.slice A len cap->(Instr.sliceBounds true len cap (lo.map a.eval) (hi.map a.eval) none).run P w=.ok (l,h,cap) w->(execOp a.eval o).run P w=.ok (.value (.slice (if cap=l then A else A.map (·.add (l*m))) (h-l) (cap-l))) w:=fun A len cap l h h1 h2=>by
  simp only[execOp,ho,h1,Instr.sliceAt,Instr.slice,Sem.run_bind,Sem.run_pure,run_underlying ht,Result.andThen_ok,Option.map_none,h2,run_sizeOf hm]
 unfold bQ at hv
 split at hv
 ·rename_i hb
  rw[hb]at hr
  simp only[Option.bind_eq_some_iff,Option.map_eq_some_iff]at hv
  obtain⟨h,hh,l,hl,rfl⟩:=hv
  obtain⟨q,q1,q2⟩:=mj (w:=w) (isS:=true) (cap:=0) E jS Ay hh hl (Nat.le_refl _)
  have h0:h=0:=ab
  have l0:l=0:=ab
  subst h0;subst l0
  refine⟨_,go _ _ _ _ _ (jL hr) q,?_⟩
  simp;exact .eK _ _ .br
 ·rename_i rows hb
  rw[hb]at hr
  simp only[Option.bind_eq_some_iff,Option.map_eq_some_iff]at hv
  obtain⟨h,hh,l,hl,hv⟩:=hv
  split at hv
  ·rename_i dt
   simp at hv;subst hv
   obtain⟨A,c,he,c1,c2,h3⟩:=uz hr
   obtain⟨q,q1,q2⟩:=mj (w:=w) (isS:=true) (cap:=c) E jS Ay hh hl c1
   refine⟨_,go _ _ _ _ _ he q,.eK _ _ ?_⟩
   have hlen:((rows.drop l).take (h-l)).length=h-l:=by simp;omega
   by_cases hz:h-l=0
   ·have:(rows.drop l).take (h-l)=[]:=by rw[hz];simp
    rw[this,hz]
    exact .AF _ _ ab
   ·rcases h3 with h3|⟨b,oo,sz,vs,rfl,hD,Iz,fl,hc,hi⟩
    ·subst h3;simp at q2;omega
    rw[if_neg ab]
    simp only[Option.map_some,jP]
    have zE:sz=m:=by
     have dR:l<rows.length:=ab
     have:=dt rows[l] (List.getElem_mem dR)
     rw[<-this,Iz _ (List.getElem_mem dR)]
    subst zE
    refine .sl _ b _ _ _ sz (fun i j=>vs (l+i) j) hlen ab ab hD (fun cs dn=>Iz cs (List.mem_of_mem_drop (List.mem_of_mem_take dn))) (fun cs dn=>fl cs (List.mem_of_mem_drop (List.mem_of_mem_take dn))) (fun i j hi hj=>?_) (fun i j cs a dn ha=>?_)
    ·rw[<-hc (l+i) j ab hj,Nat.add_mul]
     congr 2;omega
    ·rw[List.getElem?_take]at dn
     split at dn
     ·exact hi _ _ _ _ (by simpa using dn) ha
     ·simp at dn
  ·simp at hv
 ·rename_i ki off len hb
  rw[hb]at hr
  simp only[Option.bind_eq_some_iff,Option.map_eq_some_iff]at hv
  obtain⟨r,FP,h,hh,l,hl,hv⟩:=hv
  split at hv
  ·rename_i wE
   simp at hv;subst hv
   obtain⟨oo,cap,B,he,hB,h1,h2,h3,h4,hk⟩:=ja hr
   obtain⟨B',dz,R,_,_⟩:=S.row _ _ FP
   rw[hB]at dz;injection dz with dz;subst dz
   replace R:=R.row hk
   have eY:B.sz=m:=R.sz.trans wE
   obtain⟨q,q1,q2⟩:=mj (w:=w) (isS:=true) (cap:=cap) E jS Ay hh hl h1
   refine⟨_,go _ _ _ _ _ he q,?_⟩
   have e1:(off+l+(cap-l))*B.sz<=B.C:=by rw[show off+l+(cap-l)=off+cap by omega];exact h3
   by_cases mW:cap=l
   ·rw[if_pos mW]
    exact .own _ _ _ _ _ B hB hk ab (.inl ab) e1 ab
   ·rw[if_neg mW]
    simp only[Option.map_some,jP]
    have Aw:oo=off*B.sz:=by rcases h2 with h2|h2<;>omega
    exact .own _ _ _ _ _ B hB hk ab (.inr (by rw[Aw,eY,Nat.add_mul])) e1 ab
  ·simp at hv
 ·simp at hv
theorem Ih {x:Operand} {x':O} {lo hi:Option Operand} {K3 pG:Option O} {t:TypeId} (E:bI P w D ι env a) (ho:o.op=.slice t x lo hi none) (ht:P.underlying t=some .string) (hx:cO P x=some x') (jS:pR P lo=some K3) (Ay:pR P hi=some pG)
  (hv:bf (cE env x') (K3.map (cE env)) (pG.map (cE env))=some v):np P a o w D ι v:=by
 have hr:=cN E hx
 unfold bf at hv
 split at hv
 ·rename_i s hb
  rw[hb]at hr
  simp only[Option.bind_eq_some_iff,Option.map_eq_some_iff]at hv
  obtain⟨h,hh,l,hl,rfl⟩:=hv
  obtain⟨q,_,_⟩:=mj (w:=w) (isS:=false) E jS Ay hh hl (Nat.le_refl _)
  refine⟨_,?_,.eK _ _ (.str _)⟩
  simp only[execOp,ho,eV hr,Instr.sliceAt,Instr.slice,Sem.run_bind,Sem.run_pure,run_underlying ht,Result.andThen_ok,Option.map_none,Option.isSome_none,Bool.false_eq_true,if_false,q]
 ·simp at hv
theorem Ci {xs:List Operand} {ys:List O} (E:bI P w D ι env a) (h:xs.mapM (cO P)=some ys):(xs.map a.eval).length=ys.length/\∀j y,ys[j]? =some y->cG P w D ι (cE env y) ((xs.map a.eval).getD j undef):=by
 induction xs generalizing ys with
 |nil=>simp at h;subst h;simp
 |cons x r ih=>
  simp only[List.mapM_cons,Option.bind_eq_bind,Option.bind_eq_some_iff]at h
  obtain⟨c,hc,oI,dn,h⟩:=h
  simp at h;subst h
  obtain⟨h1,h2⟩:=ih dn
  refine⟨by simpa using h1,fun j d hd=>?_⟩
  cases j with
  |zero=>simp at hd ⊢;subst hd;exact cN E hc
  |succ j=>simp at hd ⊢;simpa using h2 j d hd
theorem Np {f:Nat} {first cD:Array Operand} {y8:List O} (E:bI P w D ι env a) (ho:o.op=.makeFunc (.func f) first cD) (hf:first= #[]) (hc:ft P f=true) (hx:cD.toList.mapM (cO P)=some y8):np P a o w D ι (.fn f (y8.map (cE env))):=by
 subst hf
 obtain⟨h1,h2⟩:=Ci E hx
 refine⟨.func (.func f) #[] (cD.map a.eval),by simp only[execOp,ho,Instr.makeFunc,Sem.run_bind,Sem.run_pure,Result.andThen_ok];simp,.fn _ _ _ (fun j=>(cD.toList.map a.eval).getD j undef) hc (by simpa using h1) (fun j hj=>?_) (fun j x NT=>?_)⟩
 ·simp at hj h1
  have:j<cD.size:=ab
  simp[this]
 ·simp only[List.getElem?_map,Option.map_eq_some_iff]at NT
  obtain⟨y,hy,rfl⟩:=NT
  exact h2 j y hy
theorem Nq {f:Nat} {first cD:Array Operand} {y8:List O} (E:bI P w D ι env a) (ho:o.op=.makeFunc (.func f) first cD) (hf:cD= #[]) (hc:ft P f=true) (hx:first.toList.mapM (cO P)=some y8):np P a o w D ι (.u4 f (y8.map (cE env))):=by
 subst hf
 obtain⟨h1,h2⟩:=Ci E hx
 refine⟨.func (.func f) (first.map a.eval) #[],by simp only[execOp,ho,Instr.makeFunc,Sem.run_bind,Sem.run_pure,Result.andThen_ok];simp,.u4 _ _ _ (fun j=>(first.toList.map a.eval).getD j undef) hc (by simpa using h1) (fun j hj=>?_) (fun j x NT=>?_)⟩
 ·simp at hj h1
  have:j<first.size:=ab
  simp[this]
 ·simp only[List.getElem?_map,Option.map_eq_some_iff]at NT
  obtain⟨y,hy,rfl⟩:=NT
  exact h2 j y hy
end
end Go.Proofs.YtihgaadadaekmaaGreat.V

namespace Go.Proofs.YtihgaadadaekmaaGreat.V
open Go.RowKit
variable {P:Program} {w w':World} {D D':Nat->Prop} {ι ι':Names}
def Mk (P:Program) (a:Act) (o:Oper) (w:World) (D:Nat->Prop) (ι:Names) (id:Id) (v:AV) (r:Row):Prop:=
 ∃u cells T,(execOp a.eval o).run P w=.ok (.value u) (w.alloc (.cells cells T))/\r.w=true/\r.rows.length*r.sz<=cells.size/\(∀cs∈r.rows,cs.length=r.sz)/\(∀cs∈r.rows,∀a∈cs,a.cell=true)/\
  (∀i j cs a,r.rows[i]? =some cs->cs[j]? =some a->∃x,cells[i*r.sz+j]? =some x/\cG P w D ι a x)/\∀ι':Names,ι' id=some ⟨w.heap.size,r.sz,cells.size,none⟩->cG P w D ι' v u
section
variable {g:Rows} {hs:Nat} {env:Env} {a:Act} {o:Oper} {id:Id} {v:AV}
theorem kL {vs:List Value} {cs:List K} (h:vs.mapM EM=some cs):e7 P w D ι (cs.map K.av) vs.toArray:=by
 obtain⟨h1,h2⟩:=ql h
 refine⟨by simp[h1],fun j a ha=>?_⟩
 simp only[List.getElem?_map,Option.map_eq_some_iff]at ha
 obtain⟨c,hc,rfl⟩:=ha
 exact⟨c.val,by simpa using h2 j c hc,ux c⟩
theorem jx {t:TypeId} {z:List K} (h:jj P t=some z):∃i v,P.info? t=some i/\i.zero=some v/\v.cells.size=i.size/\v.cells.toList.mapM EM=some z/\z.length=i.size:=by
 unfold jj at h
 split at h
 ·rename_i i hi
  split at h
  ·rename_i v hv
   split at h
   ·rename_i hs
    exact⟨i,v,hi,hv,hs,h,by rw[(ql h).1];simpa using hs⟩
   ·simp at h
  ·simp at h
 ·simp at h
theorem Dy {cs:List AV} {cells:Array Value} (h:e7 P w D ι cs cells):∀i j c a,[cs][i]? =some c->c[j]? =some a->∃x,cells[i*cs.length+j]? =some x/\cG P w D ι a x:=by
 intro i j c a hi hj
 cases i with
 |zero=>simp at hi;subst hi;simpa using h.2 j a hj
 |succ i=>simp at hi
theorem Ps {t:TypeId} {z:List K} (ho:o.op=.alloc t) (hz:jj P t=some z):Mk P a o w D ι id (.ptr id 0 0) ⟨true,z.length,[z.map K.av]⟩:=by
 obtain⟨i,v,hi,hv,hs,hm,hl⟩:=jx hz
 have hk:=kL (P:=P) (w:=w) (D:=D) (ι:=ι) hm
 refine⟨.pointer (some ⟨w.heap.size,0,none⟩),v.cells,t,?_,rfl,?_,?_,?_,?_,?_⟩
 ·simp only[execOp,ho,Instr.alloc,zeroValue,typeInfo,Sem.run_bind]
  simp[hi,hv,newVar,newRow]
 ·simp[hl,hs]
 ·intro cs dn;simp at dn;subst dn;simp
 ·intro cs dn x hx;simp at dn;subst dn
  obtain⟨c,_,rfl⟩:=List.mem_map.1 hx;exact c.lY
 ·have:=Dy hk;simpa using this
 ·intro ι' hι
  have:=cG.ptr (P:=P) (w:=w) (D:=D) (ι:=ι') id 0 0 _ hι rfl
  simpa using this
theorem pw {x:AV} {u:Value} (h:cG P w D ι x u) (hc:x.cells.all AV.cell=true):e7 P w D ι x.cells u.cells:=by
 obtain⟨h1,f,h2,h3⟩:=h.cells hc
 exact⟨h1,fun j a ha=>⟨f j,h2 j (List.getElem?_eq_some_iff.1 ha).1,h3 j a ha⟩⟩
theorem Pq {t:TypeId} {x:Operand} {x':O} {cs:List AV} (E:bI P w D ι env a) (ho:o.op=.box t x) (hx:cO P x=some x') (hb:cK (cE env x')=some cs):Mk P a o w D ι id (.ptr id 0 0) ⟨true,cs.length,[cs]⟩:=by
 have hr:=cN E hx
 unfold cK at hb
 split at hb
 ·rename_i dt
  simp at hb;subst hb
  have hk:=pw hr dt
  refine⟨.pointer (some ⟨w.heap.size,0,none⟩),(a.eval x).cells,t,?_,rfl,?_,?_,?_,?_,?_⟩
  ·simp only[execOp,ho,Instr.box,Sem.run_bind]
   simp[newVar,newRow]
  ·simp[hk.1]
  ·intro cs dn;simp at dn;subst dn;rfl
  ·intro cs dn y hy;simp at dn;subst dn
   exact List.all_eq_true.1 dt y hy
  ·exact Dy hk
  ·intro ι' hι
   have:=cG.ptr (P:=P) (w:=w) (D:=D) (ι:=ι') id 0 0 _ hι rfl
   simpa using this
 ·simp at hb
theorem foldl_set:∀(vs:List Value) (n off:Nat) (cells:Array Value),off+n+vs.length<=cells.size->((vs.zipIdx n).foldl (fun cs (x:Value×Nat)=>cs.setIfInBounds (off+x.2) x.1) cells).size=cells.size/\
  ∀k,((vs.zipIdx n).foldl (fun cs (x:Value×Nat)=>cs.setIfInBounds (off+x.2) x.1) cells)[k]? =if off+n<=k/\k<off+n+vs.length then vs[k-(off+n)]? else cells[k]?
 |[],n,off,cells,_=>⟨rfl,fun k=>by simp;intro h1 h2;omega⟩
 |v::r,n,off,cells,h=>by
  simp only[List.length_cons]at h
  obtain⟨h1,h2⟩:=foldl_set r (n+1) off (cells.setIfInBounds (off+n) v) (by simp;omega)
  simp only[List.zipIdx_cons,List.foldl_cons]
  refine⟨by rw[h1];simp,fun k=>?_⟩
  rw[h2 k]
  simp only[List.length_cons]
  by_cases hk:k=off+n
  ·subst hk
   rw[if_neg ab,if_pos ab]
   simp[show off+n<cells.size by omega]
  ·by_cases tR:off+n<=k/\k<off+n+(r.length+1)
   ·rw[if_pos ab,if_pos tR]
    have:k-(off+n)=(k-(off+(n+1)))+1:=ab
    rw[this,List.getElem?_cons_succ]
   ·rw[if_neg ab,if_neg tR,Array.getElem?_setIfInBounds_ne ab]
theorem tJ (place:Nat->Option (Nat×Nat)):∀(ps:List (Nat×Value)) (qs:List (Nat×Nat×AV)) (cells:Array Value) (cs res:List AV),e7 P w D ι cs cells->(∀a∈cs,a.cell=true)->ps.length=qs.length->
  (∀(k:Nat) i u o' n x,ps[k]? =some (i,u)->qs[k]? =some (o',n,x)->place i=some (o',n)/\cG P w D ι x u)->cw cs qs=some res->∃iQ,Instr.fill place cells ps=some iQ/\e7 P w D ι res iQ/\(∀a∈res,a.cell=true)/\res.length=cs.length:=by
 intro ps
 induction ps with
 |nil=>
  intro qs cells cs res hR hf hl _ hv
  cases qs with
  |nil=>simp[cw]at hv;subst hv;exact⟨cells,rfl,hR,hf,rfl⟩
  |cons q r=>simp at hl
 |cons p ps ih=>
  intro qs cells cs res hR hf hl hp hv
  cases qs with
  |nil=>simp at hl
  |cons q qs=>
   obtain⟨i,u⟩:=p
   obtain⟨oo,n,x⟩:=q
   obtain⟨lk,hr⟩:=hp 0 i u oo n x rfl rfl
   unfold cw at hv
   split at hv
   ·rename_i hc
    obtain⟨c1,c2,c3⟩:=hc
    have hk:=pw hr c3
    have sN:u.cells.size=n:=by rw[hk.1,c1]
    have dn:cells.size=cs.length:=hR.1
    unfold Instr.fill
    simp only[lk]
    rw[if_neg (by rw[sN,dn];simp;omega)]
    obtain⟨s1,s2⟩:=foldl_set u.cells.toList 0 oo cells (by simp;omega)
    have e0:(u.cells.zipIdx.foldl (fun cs (x:Value×Nat)=>cs.setIfInBounds (oo+x.2) x.1) cells)=(u.cells.toList.zipIdx 0).foldl (fun cs (x:Value×Nat)=>cs.setIfInBounds (oo+x.2) x.1) cells:=by
     rw[<-Array.foldl_toList];simp
    have vp:=ih qs (u.cells.zipIdx.foldl (fun cs (x:Value×Nat)=>cs.setIfInBounds (oo+x.2) x.1) cells) (cs.take oo++x.cells++cs.drop (oo+n)) res ?_ ?_ (by simpa using hl) (fun k i u o' n x h1 h2=>hp (k+1) i u o' n x (by simpa using h1) (by simpa using h2)) hv
    ·obtain⟨iQ,h1,h2,h3,h4⟩:=vp
     refine⟨iQ,h1,h2,h3,?_⟩
     rw[h4];simp;omega
    ·rw[e0]
     refine⟨by rw[s1,dn];simp;omega,fun j a ha=>?_⟩
     rw[s2 j]
     simp only[Nat.add_zero,Array.length_toList]
     by_cases hj:oo<=j/\j<oo+u.cells.size
     ·rw[if_pos hj]
      rw[List.append_assoc,List.getElem?_append_right (by simp;omega),List.getElem?_append_left (by simp;omega)]at ha
      simp only[List.length_take]at ha
      rw[show min oo cs.length=oo by omega]at ha
      simpa using hk.2 _ _ ha
     ·rw[if_neg hj]
      by_cases hj2:j<oo
      ·rw[List.append_assoc,List.getElem?_append_left (by simp;omega),List.getElem?_take,if_pos hj2]at ha
       exact hR.2 _ _ ha
      ·rw[List.getElem?_append_right (by simp;omega)]at ha
       simp only[List.length_append,List.length_take,List.getElem?_drop]at ha
       rw[show oo+n+(j-(min oo cs.length+x.cells.length))=j by omega]at ha
       exact hR.2 _ _ ha
    ·intro b hb
     rcases List.mem_append.1 hb with hb|hb
     ·rcases List.mem_append.1 hb with hb|hb
      ·exact hf b (List.mem_of_mem_take hb)
      ·exact List.all_eq_true.1 c3 b hb
     ·exact hf b (List.mem_of_mem_drop hb)
   ·simp at hv
theorem vm {fs:List Field} (h:∀f∈fs,(P.info? f.type).isSome=true):∃yc,fs.mapM (fun f=>(P.info? f.type).map fun i=>(f.offset,i.size))=some yc/\∀(i:Nat) (f:Field) (n:Nat),fs[i]? =some f->dK P f.type=some n->yc[i]? =some (f.offset,n):=by
 induction fs with
 |nil=>exact⟨[],rfl,fun i f n h=>by simp at h⟩
 |cons f r ih=>
  obtain⟨q,h1,h2⟩:=ih (fun x hx=>h x (List.mem_cons_of_mem _ hx))
  obtain⟨i,hi⟩:=Option.isSome_iff_exists.1 (h f (by simp))
  refine⟨(f.offset,i.size)::q,by simp[hi,h1],fun k x n hk hn=>?_⟩
  cases k with
  |zero=>simp at hk;subst hk;simp[dK,hi]at hn;subst hn;rfl
  |succ k=>simp at hk ⊢;exact h2 k x n hk hn
theorem oY {ps:List (Nat×Operand)} {l:List (Nat×O)} (E:bI P w D ι env a) (h:ps.mapM (fun(x:Nat×Operand)=>(cO P x.2).map (x.1,·))=some l):l.length=ps.length/\∀(k i:Nat) (y:O),l[k]? =some (i,y)->∃x,ps[k]? =some (i,x)/\cO P x=some y:=by
 induction ps generalizing l with
 |nil=>simp at h;subst h;simp
 |cons p r ih=>
  simp only[List.mapM_cons,Option.bind_eq_bind,Option.bind_eq_some_iff]at h
  obtain⟨c,hc,oI,dn,h⟩:=h
  simp at h;subst h
  obtain⟨h1,h2⟩:=ih dn
  simp only[Option.map_eq_some_iff]at hc
  obtain⟨y,hy,rfl⟩:=hc
  refine⟨by simp[h1],fun k i z hk=>?_⟩
  cases k with
  |zero=>simp at hk;obtain⟨rfl,rfl⟩:=hk;exact⟨p.2,rfl,hy⟩
  |succ k=>simp at hk ⊢;exact h2 k i z hk
theorem AT {fs:Array Field} {l:List (Nat×O)} {q:List (Nat×Nat×O)} (h:qW P fs l=some q):q.length=l.length/\∀(k oo n:Nat) (y:O),q[k]? =some (oo,n,y)->∃(i:Nat) (f:Field),l[k]? =some (i,y)/\fs[i]? =some f/\f.offset=oo/\dK P f.type=some n:=by
 induction l generalizing q with
 |nil=>simp[qW]at h;subst h;simp
 |cons p r ih=>
  obtain⟨i,x⟩:=p
  unfold qW at h
  split at h
  ·rename_i f hf
   split at h
   ·rename_i n hn
    simp only[Option.map_eq_some_iff]at h
    obtain⟨q',G0,rfl⟩:=h
    obtain⟨h1,h2⟩:=ih G0
    refine⟨by simp[h1],fun k oo m y hk=>?_⟩
    cases k with
    |zero=>simp at hk;obtain⟨rfl,rfl,rfl⟩:=hk;exact⟨i,f,rfl,hf,rfl,hn⟩
    |succ k=>simp only[List.getElem?_cons_succ]at hk ⊢;exact h2 k oo m y hk
   ·simp at h
  ·simp at h
theorem e7.agg {xs:List AV} {vs:Array Value} (h:e7 P w D ι xs vs) (hf:∀a∈xs,a.cell=true):cG P w D ι (.agg xs) (.agg vs):=
 .agg xs vs (fun j=>vs.getD j undef) h.1 hf (fun j hj=>by
  have:j<vs.size:=by rw[h.1];exact hj
  simp[this]) (fun j a ha=>by
  obtain⟨u,h1,h2⟩:=h.2 j a ha
  simpa[Array.getD_eq_getD_getElem?,h1]using h2)
theorem Kt {t:TypeId} {ps:Array (Nat×Operand)} {fs:Array Field} {z:List K} {l:List (Nat×O)} {q:List (Nat×Nat×O)} {cs:List AV} (E:bI P w D ι env a) (ho:o.op=.build t ps) (ht:P.underlying t=some (.struct fs)) (hz:jj P t=some z) (hl:q9 P ps=some l)
  (p4:∀f∈fs.toList,(P.info? f.type).isSome=true) (hq:qW P fs l=some q) (hv:cw (z.map K.av) (q.map fun(o,n,x)=>(o,n,cE env x))=some cs):np P a o w D ι (.agg cs):=by
 obtain⟨it,zv,hi,tV,hs,hm,Dn⟩:=jx hz
 obtain⟨yc,lk,R0⟩:=vm p4
 have hk:=kL (P:=P) (w:=w) (D:=D) (ι:=ι) hm
 obtain⟨n1,r1⟩:=oY E hl
 obtain⟨n2,r2⟩:=AT hq
 obtain⟨iQ,h1,h2,h3,_⟩:=tJ (P:=P) (w:=w) (D:=D) (ι:=ι) (yc.toArray[·]?) (ps.toList.map fun(i,x)=>(i,a.eval x)) (q.map fun(o,n,x)=>(o,n,cE env x)) zv.cells _ cs (by simpa using hk)
  (fun b hb=>by obtain⟨c,_,rfl⟩:=List.mem_map.1 hb;exact c.lY) (by simp[n2,n1]) (fun k i u o' n x p9 tR=>by
   simp only[List.getElem?_map,Option.map_eq_some_iff]at p9 tR
   obtain⟨⟨i',x'⟩,hp,e1⟩:=p9
   obtain⟨⟨o2,n',y⟩,G0,e2⟩:=tR
   simp only[Prod.mk.injEq]at e1 e2
   obtain⟨rfl,rfl⟩:=e1
   obtain⟨rfl,rfl,rfl⟩:=e2
   obtain⟨i2,f,GV,hf,rfl,hn⟩:=r2 _ _ _ _ G0
   obtain⟨x2,yJ,hc⟩:=r1 _ _ _ GV
   rw[hp]at yJ
   simp only[Option.some.injEq,Prod.mk.injEq]at yJ
   obtain⟨rfl,rfl⟩:=yJ
   exact⟨by simpa using R0 _ _ _ (by simpa using hf) hn,cN E hc⟩) hv
 refine⟨.agg iQ,?_,h2.agg h3⟩
 have hb:P.built t ((ps.map fun(i,x)=>(i,a.eval x)).toList)=some iQ:=by
  unfold Program.built
  simp only[hi,ht,tV,lk]
  simpa using h1
 simp only[execOp,ho,Sem.run_bind,run_build w t _ _ hb,Result.andThen_ok,Sem.run_pure]
theorem Ig {t e:TypeId} {len n:Nat} {ps:Array (Nat×Operand)} {z:List K} {l:List (Nat×O)} {cs:List AV} (E:bI P w D ι env a) (ho:o.op=.build t ps) (ht:P.underlying t=some (.array len e)) (hz:jj P t=some z) (hl:q9 P ps=some l) (hn:dK P e=some n)
  (hv:cw (z.map K.av) ((l.map fun(x:Nat×O)=>(x.1*n,n,x.2)).map fun(o,n,x)=>(o,n,cE env x))=some cs):np P a o w D ι (.agg cs):=by
 obtain⟨it,zv,hi,tV,hs,hm,Dn⟩:=jx hz
 have hk:=kL (P:=P) (w:=w) (D:=D) (ι:=ι) hm
 obtain⟨n1,r1⟩:=oY E hl
 obtain⟨ie,Iv,eY⟩:∃ie,P.info? e=some ie/\ie.size=n:=by simpa[dK]using hn
 obtain⟨iQ,h1,h2,h3,_⟩:=tJ (P:=P) (w:=w) (D:=D) (ι:=ι) (fun i=>some (i*ie.size,ie.size)) (ps.toList.map fun(i,x)=>(i,a.eval x)) ((l.map fun(x:Nat×O)=>(x.1*n,n,x.2)).map fun(o,n,x)=>(o,n,cE env x)) zv.cells _ cs (by simpa using hk)
  (fun b hb=>by obtain⟨c,_,rfl⟩:=List.mem_map.1 hb;exact c.lY) (by simp[n1]) (fun k i u o' n' x p9 tR=>by
   simp only[List.getElem?_map,Option.map_eq_some_iff]at p9 tR
   obtain⟨⟨i',x'⟩,hp,e1⟩:=p9
   obtain⟨⟨o2,n2,y⟩,⟨⟨i2,y2⟩,GV,e3⟩,e2⟩:=tR
   simp only[Prod.mk.injEq]at e1 e2 e3
   obtain⟨rfl,rfl⟩:=e1
   obtain⟨rfl,rfl,rfl⟩:=e2
   obtain⟨rfl,rfl,rfl⟩:=e3
   obtain⟨x2,yJ,hc⟩:=r1 _ _ _ GV
   rw[hp]at yJ
   simp only[Option.some.injEq,Prod.mk.injEq]at yJ
   obtain⟨rfl,rfl⟩:=yJ
   exact⟨by rw[eY],cN E hc⟩) hv
 refine⟨.agg iQ,?_,h2.agg h3⟩
 have hb:P.built t ((ps.map fun(i,x)=>(i,a.eval x)).toList)=some iQ:=by
  unfold Program.built
  simp only[hi,ht,tV,Iv]
  simpa using h1
 simp only[execOp,ho,Sem.run_bind,run_build w t _ _ hb,Result.andThen_ok,Sem.run_pure]
theorem tH:∀(vs:List AV) (sz i:Nat) (rs:List (List AV)) (cs:List AV),0<sz->cs.length=(i+vs.length)*sz->rowsOf sz vs=some rs->
  cw cs ((vs.zipIdx i).map fun(v,j)=>(j*sz,sz,v))=some (cs.take (i*sz)++rs.flatten)/\rs.length=vs.length/\(∀c∈rs,c.length=sz)/\∀c∈rs,∀x∈c,x.cell=true
 |[],sz,i,rs,cs,_,hl,h=>by
  simp[rowsOf]at h;subst h
  simp at hl
  simp[cw,List.take_of_length_le (show cs.length<=i*sz by omega)]
 |v::r,sz,i,rs,cs,eY,hl,h=>by
  simp only[rowsOf,Option.bind_eq_some_iff,Option.map_eq_some_iff]at h
  obtain⟨c,hc,rs',wE,rfl⟩:=h
  unfold rowOf at hc
  split at hc
  ·rename_i uZ
   simp at hc;subst hc
   obtain⟨oK,Et⟩:=uZ
   simp only[List.length_cons]at hl
   have hmul:(i+(r.length+1))*sz=i*sz+sz+r.length*sz:=by rw[Nat.add_mul,Nat.add_mul];omega
   have ih:=tH r sz (i+1) rs' (cs.take (i*sz)++v.cells++cs.drop (i*sz+sz)) eY (by
    simp[oK];rw[Nat.add_mul,Nat.add_mul];omega) wE
   refine⟨?_,by simp[ih.2.1],?_,?_⟩
   ·simp only[List.zipIdx_cons,List.map_cons,cw]
    rw[if_pos ⟨oK,ab,Et⟩,ih.1]
    congr 1
    rw[List.flatten_cons,<-List.append_assoc]
    congr 1
    rw[Nat.add_mul,Nat.one_mul,List.take_append_of_le_length (by simp[oK];omega)]
    rw[List.take_of_length_le (by simp[oK];omega)]
   ·intro c' kf;rcases List.mem_cons.1 kf with rfl|kf
    ·exact oK
    ·exact ih.2.2.1 c' kf
   ·intro c' kf;rcases List.mem_cons.1 kf with rfl|kf
    ·exact List.all_eq_true.1 Et
    ·exact ih.2.2.2 c' kf
  ·simp at hc
theorem flat_get {α:Type} {nz:List (List α)} {sz:Nat} (h:∀cs∈nz,cs.length=sz) {i j:Nat} {cs:List α} {a:α} (hi:nz[i]? =some cs) (hj:cs[j]? =some a):nz.flatten[i*sz+j]? =some a:=by
 induction nz generalizing i with
 |nil=>simp at hi
 |cons c r ih=>
  have hc:c.length=sz:=h c (by simp)
  cases i with
  |zero=>
   simp at hi;subst hi
   have dR:=(List.getElem?_eq_some_iff.1 hj).1
   rw[List.flatten_cons,List.getElem?_append_left ab];simpa using hj
  |succ i=>
   rw[List.flatten_cons,List.getElem?_append_right (by rw[hc,Nat.succ_mul];omega)]
   have:(i+1)*sz+j-c.length=i*sz+j:=by rw[hc,Nat.succ_mul];omega
   rw[this]
   exact ih (fun cs dn=>h cs (List.mem_cons_of_mem _ dn)) (by simpa using hi)
theorem GA {α:Type} {nz:List (List α)} {sz:Nat} (h:∀cs∈nz,cs.length=sz):nz.flatten.length=nz.length*sz:=by
 induction nz with
 |nil=>simp
 |cons c r ih=>
  rw[List.flatten_cons,List.length_append,h c (by simp),ih (fun cs dn=>h cs (List.mem_cons_of_mem _ dn)),List.length_cons,Nat.succ_mul];omega
theorem nX {zv:Value} {z:List K} {n:Nat} (hm:zv.cells.toList.mapM EM=some z) (jq:0<z.length):∀k,k<n->∃c,z[k % z.length]? =some c/\((Array.range n).map (zv.cells[· % zv.cells.size]!))[k]? =some c.val:=by
 intro k hk
 obtain⟨h1,h2⟩:=ql hm
 have eY:zv.cells.size=z.length:=by simpa using h1.symm
 have dR:k % z.length<z.length:=Nat.mod_lt _ jq
 refine⟨z[k % z.length],List.getElem?_eq_getElem dR,?_⟩
 have h3:=h2 _ _ (List.getElem?_eq_getElem dR)
 simp only[Array.getElem?_toList]at h3
 have zD:k % z.length<zv.cells.size:=by rw[eY];exact dR
 rw[Array.getElem?_map,Array.getElem?_range,if_pos hk]
 simp only[Option.map_some]
 rw[eY,getElem!_pos zv.cells (k % z.length) zD]
 rw[Array.getElem?_eq_getElem zD]at h3
 exact h3
theorem Hj {t e:TypeId} {len sz:Nat} {ps:Array (Nat×Operand)} {z:List K} {l:List (Nat×O)} {rs:List (List AV)} (E:bI P w D ι env a) (ho:o.op=.buildSlice t len ps) (ht:P.underlying t=some (.slice e)) (eY:dK P e=some (sz+1)) (hz:jj P e=some z)
  (hl:q9 P ps=some l) (Jv:len*(sz+1)<=4096) (O6:l.map (·.1)=List.range len) (hv:rowsOf (sz+1) (l.map fun x=>cE env x.2)=some rs):Mk P a o w D ι id (.own id 0 len) ⟨true,sz+1,rs⟩:=by
 obtain⟨it,zv,hi,tV,hs,hm,Dn⟩:=jx hz
 have jg:it.size=sz+1:=by simpa[dK,hi]using eY
 obtain⟨n1,r1⟩:=oY E hl
 have Ez:l.length=len:=by have:=congrArg List.length O6;simpa using this
 by_cases h0:len=0
 ·subst h0
  have Qs:l=[]:=List.length_eq_zero_iff.1 Ez
  subst Qs
  simp[rowsOf]at hv;subst hv
  have Qw:ps= #[]:=by
   apply Array.ext';apply List.eq_nil_of_length_eq_zero;rw[<-n1];rfl
  subst Qw
  refine⟨.slice (some ⟨w.heap.size,0,none⟩) 0 0, #[],e,?_,rfl,by simp,by simp,by simp,fun i j cs x hi=>by simp at hi,fun ι' hι=>?_⟩
  ·simp[execOp,ho,Instr.buildSlice,run_underlying ht,sizeOf,typeInfo,hi,Instr.fill,newRow,Array.range_zero']
  ·exact .own _ 0 0 0 0 _ hι rfl (Nat.le_refl _) (.inl rfl) (by simp) (by simp[maxLen])
 ·have wI:e7 P w D ι ((List.range (len*(sz+1))).map fun k=>(z.getD (k % z.length) .br).av) ((Array.range (len*(sz+1))).map (zv.cells[· % zv.cells.size]!)):=by
   refine⟨by simp,fun j x hx=>?_⟩
   simp only[List.getElem?_map,Option.map_eq_some_iff]at hx
   obtain⟨k,hk,rfl⟩:=hx
   have lS:=(List.getElem?_eq_some_iff.1 hk).1
   simp at lS
   rw[List.getElem?_range lS]at hk
   injection hk with hk
   subst hk
   obtain⟨c,hc,hcv⟩:=nX hm (by rw[Dn,jg];omega) j lS
   exact⟨c.val,hcv,by rw[List.getD_eq_getElem?_getD,hc];exact ux c⟩
  obtain⟨f1,f2,f3,f4⟩:=tH (l.map fun x=>cE env x.2) (sz+1) 0 rs ((List.range (len*(sz+1))).map fun k=>(z.getD (k % z.length) .br).av) ab (by simp[Ez]) hv
  obtain⟨iQ,h1,h2,h3,h4⟩:=tJ (P:=P) (w:=w) (D:=D) (ι:=ι) (fun i=>some (i*it.size,it.size)) (ps.toList.map fun(i,x)=>(i,a.eval x)) _ _ _ _ wI
   (fun b hb=>by obtain⟨c,_,rfl⟩:=List.mem_map.1 hb;exact K.lY _) (by simp[n1]) (fun k i u o' n x p9 tR=>by
   simp only[List.getElem?_map,Option.map_eq_some_iff]at p9 tR
   obtain⟨⟨i',x'⟩,hp,e1⟩:=p9
   obtain⟨⟨v2,j2⟩,G0,e2⟩:=tR
   simp only[Prod.mk.injEq]at e1 e2
   obtain⟨rfl,rfl⟩:=e1
   obtain⟨rfl,rfl,rfl⟩:=e2
   rw[List.getElem?_zipIdx]at G0
   simp only[List.getElem?_map,Option.map_map,Option.map_eq_some_iff,Function.comp_apply,Prod.mk.injEq,Nat.zero_add]at G0
   obtain⟨⟨i2,y⟩,GV,rfl,rfl⟩:=G0
   obtain⟨x2,yJ,hc⟩:=r1 _ _ _ GV
   rw[hp]at yJ
   simp only[Option.some.injEq,Prod.mk.injEq]at yJ
   obtain⟨rfl,rfl⟩:=yJ
   have wz:(l.map (·.1))[k]? =some i':=by rw[List.getElem?_map,GV];rfl
   have lS:=(List.getElem?_eq_some_iff.1 wz).1
   rw[O6]at wz
   simp at lS
   rw[List.getElem?_range ab]at wz
   injection wz with wz
   subst wz
   exact⟨by rw[jg],cN E hc⟩) f1
  simp only[Nat.zero_mul,List.take_zero,List.nil_append,List.length_map]at h2 h3 h4 f2
  have dn:iQ.size=len*(sz+1):=by rw[h2.1,h4];simp
  refine⟨.slice (some ⟨w.heap.size,0,none⟩) len len,iQ,e,?_,rfl,?_,f3,f4,fun i j cs x pG hj=>h2.2 _ _ (flat_get f3 pG hj),fun ι' hι=>?_⟩
  ·have gS:=run_buildSlice (P:=P) w t e len (ps.map fun(i,x)=>(i,a.eval x)) iQ it zv ht hi tV (by rw[jg];omega) (by rw[jg];exact Nat.mul_ne_zero h0 ab) (by rw[<-jg]at h1;simpa using h1)
   simp only[execOp,ho,Sem.run_bind,gS,Result.andThen_ok,Sem.run_pure]
  ·dsimp only;rw[f2,Ez,dn];exact Nat.le_refl _
  ·refine .own _ 0 len 0 len _ hι rfl (Nat.le_refl _) (.inr (by simp)) ?_ (by simp only[maxLen];have:=Nat.le_mul_of_pos_right len (show 0<sz+1 by omega);omega)
   dsimp only;rw[dn];simp
theorem E3 {t e:TypeId} {it:TypeInfo} {m:Nat} {z:List K} {l c:Operand} {l' c':O} {n:Nat} {r:Row} (E:bI P w D ι env a) (ho:o.op=.makeSlice t l c) (ht:P.underlying t=some (.slice e)) (eY:dK P e=some (m+1)) (hz:jj P e=some z) (RH:P.info? e=some it) (hby:it.bytes<=32768)
  (hl:cO P l=some l') (hc:cO P c=some c') (hv:ig z (cE env l') (cE env c')=some (n,r)):Mk P a o w D ι id (.own id 0 n) r:=by
 obtain⟨it',zv,hi,tV,hs,hm,Dn⟩:=jx hz
 rw[RH]at hi;injection hi with hi;subst hi
 have jg:it.size=m+1:=by simpa[dK,RH]using eY
 unfold ig at hv
 split at hv
 ·rename_i k1 ln k2 cn e1 e2
  split at hv
  ·rename_i hb
   obtain⟨b1,b2,b3⟩:=hb
   simp at hv
   obtain⟨rfl,rfl⟩:=hv
   have r1:=dj (e1▸cN E hl)
   have r2:=dj (e2▸cN E hc)
   unfold dI at b3
   have KG:(it.bytes:Int)*cn<=281474976710656:=by
    have h1:(it.bytes:Int)<=32768:=ab
    have h2:(it.bytes:Int)*cn<=32768*16777216:=Int.mul_le_mul h1 ab ab ab
    omega
   have gS:=run_make (P:=P) w t e it zv ht RH tV k1 k2 ln cn b1 b2 KG ab
   have jW:∀k,k<cn.toNat*it.size->∃x,z[k % z.length]? =some x/\(madeCells zv.cells (cn.toNat*it.size))[k]? =some x.val:=fun k hk=>nX hm (by rw[Dn,jg];omega) k hk
   refine⟨.slice (some ⟨w.heap.size,0,none⟩) ln.toNat cn.toNat,madeCells zv.cells (cn.toNat*it.size),e,by simp only[execOp,ho,r1,r2,Sem.run_bind,gS,Result.andThen_ok,Sem.run_pure],rfl,?_,?_,?_,?_,fun ι' hι=>?_⟩
   ·simp only[List.length_replicate,size_madeCells,Dn]
    exact Nat.mul_le_mul_right _ ab
   ·intro cs dn
    have:=List.eq_of_mem_replicate dn
    subst this;simp
   ·intro cs dn x hx
    have:=List.eq_of_mem_replicate dn
    subst this
    obtain⟨c,_,rfl⟩:=List.mem_map.1 hx;exact c.lY
   ·intro i j cs x pG hj
    have oL:=(List.getElem?_eq_some_iff.1 pG).1
    have:=List.eq_of_mem_replicate (List.mem_of_getElem? pG)
    subst this
    simp only[List.length_replicate]at oL
    simp only[List.getElem?_map,Option.map_eq_some_iff]at hj
    obtain⟨q,hq,rfl⟩:=hj
    have gG:=(List.getElem?_eq_some_iff.1 hq).1
    dsimp only
    obtain⟨x,hx,yJ⟩:=jW (i*z.length+j) (by
     rw[<-Dn]
     calc i*z.length+j<i*z.length+z.length:=ab
      _=(i+1)*z.length:=by rw[Nat.add_mul,Nat.one_mul]
      _<=cn.toNat*z.length:=Nat.mul_le_mul_right _ ab)
    rw[Nat.mul_comm i,Nat.mul_add_mod,Nat.mod_eq_of_lt gG,hq]at hx
    injection hx with hx;subst hx
    exact⟨_,by rw[Nat.mul_comm i]at yJ ⊢;exact yJ,ux q⟩
   ·refine .own _ 0 _ 0 _ _ hι rfl ab (.inr (by simp)) ?_ (by simp only[maxLen];omega)
    dsimp only;rw[size_madeCells,Dn];simp
  ·simp at hv
 ·simp at hv
end
end Go.Proofs.YtihgaadadaekmaaGreat.V

namespace Go.Proofs.YtihgaadadaekmaaGreat.V
open Go.RowKit
variable {P:Program} {w w':World} {D D':Nat->Prop} {ι ι':Names}
def CN (P:Program) (k:TypeId) (m:MK):Prop:=
 (∃s,m=⟨false,[s]⟩/\eZ P k=some s)∨
 (∃fs ts,m=⟨true,ts⟩/\P.underlying k=some (.struct fs)/\ef P 4 0 fs.toList=some ts/\P.stoodInHeld k=false/\∀f∈fs.toList,(eZ P f.type).isSome=true)
theorem pQ {t:TypeId} {m:MK} {z:K} (h:qZ P t=some (m,z)):∃k e i zv,P.underlying t=some (.map k e)/\P.info? e=some i/\i.zero=some zv/\EM zv=some z/\CN P k m:=by
 unfold qZ at h
 split at h
 ·rename_i k e ht
  split at h
  ·rename_i zv s h1 h2 h3
   simp only[Option.map_eq_some_iff,Prod.mk.injEq]at h
   obtain⟨z',hz,rfl,rfl⟩:=h
   simp only[Option.bind_eq_some_iff]at h2
   obtain⟨i,hi,tV⟩:=h2
   exact⟨k,e,i,zv,ht,hi,tV,hz,.inl ⟨s,rfl,h3⟩⟩
  ·rename_i zv fs h1 h2 h3 h4
   split at h
   ·rename_i ts z' vH hz
    split at h
    ·rename_i hc
     simp only[Option.some.injEq,Prod.mk.injEq]at h
     obtain⟨rfl,rfl⟩:=h
     simp only[Option.bind_eq_some_iff]at h2
     obtain⟨i,hi,tV⟩:=h2
     simp only[Bool.not_eq_true',List.all_eq_true]at hc
     exact⟨k,e,i,zv,ht,hi,tV,hz,.inr ⟨fs,ts,rfl,h4,vH,hc.1,hc.2⟩⟩
    ·cases h
   ·cases h
  ·cases h
 ·cases h
theorem uB {t:TypeId} {s:TS} (ht:eZ P t=some s) (em:Bool) (n:Nat) (v:Value):(Instr.checkKey em (n+1) t v).run P w=.ok () w:=by
 unfold Instr.checkKey
 cases s with
 |tB=>simp[run_underlying (ot ht)]
 |tS=>simp[run_underlying (ov ht)]
 |tI=>
  obtain⟨q,hq⟩:=ou ht
  simp[run_underlying hq]
theorem uC (em:Bool) (n:Nat) (vs:Array Value):∀(d:Nat) (fs:List Field) (off:Nat) (ts:List TS),ef P (d+1) off fs=some ts->(∀f∈fs,(eZ P f.type).isSome=true)->off+ts.length<=vs.size->
  Sem.run P (forIn fs PUnit.unit fun f (_:PUnit)=>if f.name≠ "_" then do
    let x <-Go.part f.type vs f.offset
    Instr.checkKey em (n+1) f.type x
    pure (ForInStep.yield PUnit.unit)
   else pure (ForInStep.yield PUnit.unit)) w=Result.ok PUnit.unit w
 |d,[],off,ts,_,_,_=>by simp
 |d,f::r,off,ts,hf,hs,hl=>by
  rw[wm]at hf
  split at hf
  ·rename_i hcond
   obtain⟨ho,gU⟩:=hcond
   split at hf
   ·rename_i s NR
    split at hf
    ·rename_i s5
     simp only[Option.map_eq_some_iff]at hf
     obtain⟨Lc,hr,rfl⟩:=hf
     simp only[List.length_cons]at hl
     have ih:=uC em n vs d r (off+1) Lc hr (fun f hf=>hs f (List.mem_cons_of_mem _ hf)) ab
     have hu:vs[off]? =some vs[off]:=by simp
     simp only[List.forIn_cons,Sem.run_bind,if_pos gU,ho,lL s5 hu,Result.andThen_ok,uB NR,Sem.run_pure]
     exact ih
    ·cases hf
   ·rename_i hn
    have:=hs f (by simp)
    rw[hn]at this;cases this
  ·cases hf
theorem Cp {k:TypeId} {m:MK} (hk:CN P k m) (em:Bool) (key:AV) (u:Value) (s5:key.isAgg=m.ka) (hlen:key.cells.length=m.ks) (hr:cG P w D ι key u):(Instr.checkKey em 10000 k u).run P w=.ok () w:=by
 rcases hk with⟨s,rfl,hs⟩|⟨fs,ts,rfl,p4,vH,eB,dt⟩
 ·exact uB hs em 9999 u
 ·cases key<;>simp[AV.isAgg]at s5
  rename_i cs
  obtain⟨vs,f,rfl,h1,_⟩:=iv hr
  unfold Instr.checkKey
  simp only[Sem.run_bind,run_underlying p4,Result.andThen_ok]
  rw[<-Array.forIn_toList]
  have h:=uC (P:=P) (w:=w) em 9998 vs 3 fs.toList 0 ts vH dt (by simp[AV.cells,MK.ks]at hlen;omega)
  rw[h]
  rfl
theorem Gb (a b:ByteArray):(a==b)=decide (a=b):=by
 by_cases h:a=b
 ·subst h;rw[decide_eq_true rfl]
  obtain⟨x⟩:=a
  show(x==x)=true
  simp
 ·rw[decide_eq_false h,Bool.eq_false_iff]
  intro hc
  obtain⟨x⟩:=a
  obtain⟨y⟩:=b
  exact h (by rw[show x=y by simpa using(show(x==y)=true from hc)])
theorem HK {t:TypeId} {s:TS} {x y:AV} {u v:Value} {b:Bool} {d:TypeDesc} (ht:eZ P t=some s) (hd:P.underlying t=some d) (he:fZ s x y=some b) (hx:cG P w D ι x u) (hy:cG P w D ι y v):Instr.sameNow d u v=some b:=by
 unfold fZ at he
 split at he
 ·rename_i k n k' n'
  split at he
  ·rename_i hk
   subst hk
   simp at he;subst he
   obtain⟨q,hq⟩:=ou ht
   rw[hd]at hq;injection hq with hq;subst hq
   rw[dj hx,dj hy]
   simp[Instr.sameNow]
   rfl
  ·cases he
 ·simp at he;subst he
  have hq:=ot ht
  rw[hd]at hq;injection hq with hq;subst hq
  rw[eS hx,eS hy];rfl
 ·rename_i a c
  simp at he;subst he
  have hq:=ov ht
  rw[hd]at hq;injection hq with hq;subst hq
  rw[eV hx,eV hy]
  simp only[Instr.sameNow,Gb]
 ·cases he
def Found (es:List MapEntry) (i:Nat) (r:Option Nat) (res:Option (Nat×Value)):Prop:=(r=none/\res=none)∨∃j e,r=some (i+j)/\es[j]? =some e/\res=some (i+j,e.val)
theorem tL {e:MapEntry} {es:List MapEntry} {i:Nat} {r:Option Nat} {res:Option (Nat×Value)} (h:Found es (i+1) r res):Found (e::es) i r res:=by
 rcases h with h|⟨j,x,h1,h2,h3⟩
 ·exact .inl h
 ·exact .inr ⟨j+1,x,by rw[h1];congr 1;omega,by simpa using h2,by rw[h3];congr 2;omega⟩
theorem zl {t:TypeId} {s:TS} {d:TypeDesc} {x:AV} {u:Value} (ht:eZ P t=some s) (hd:P.underlying t=some d) (hx:cG P w D ι x u):∀(rows:List (List AV)) (es:List MapEntry) (i:Nat) (r:Option Nat),es.length=rows.length->
  (∀(j:Nat) (cs:List AV),rows[j]? =some cs->∃(e:MapEntry) (kv:AV),es[j]? =some e/\cs.head? =some kv/\cG P w D ι kv e.key)->gV ⟨false,[s]⟩ [x] rows i=some r->∃res,Instr.findNow d u es i=some res/\Found es i r res
 |[],[],i,r,_,_,h=>by
  simp[gV]at h;subst h
  exact⟨none,rfl,.inl ⟨rfl,rfl⟩⟩
 |[],e::es,i,r,hl,_,h=>by simp at hl
 |cs::rows,[],i,r,hl,_,h=>by simp at hl
 |cs::rows,e::es,i,r,hl,hr,h=>by
  obtain⟨e',kv,Jj,hk,gx⟩:=hr 0 cs rfl
  simp at Jj;subst Jj
  have dn:cs.take (MK.ks ⟨false,[s]⟩)=[kv]:=by
   cases cs with
   |nil=>simp at hk
   |cons a l=>simp at hk;subst hk;simp[MK.ks]
  unfold gV at h
  rw[dn]at h
  cases hq:fZ s x kv with
  |none=>simp[e8,hq]at h
  |some b=>
   have hs:=HK ht hd hq hx gx
   cases b with
   |true=>
    simp[e8,hq]at h;subst h
    exact⟨some (i,e.val),by simp[Instr.findNow,hs],.inr ⟨0,e,rfl,rfl,rfl⟩⟩
   |false=>
    simp[e8,hq]at h
    obtain⟨res,h1,h2⟩:=zl ht hd hx rows es (i+1) r (by simpa using hl) (fun j cs hj=>hr (j+1) cs (by simpa using hj)) h
    exact⟨res,by simp[Instr.findNow,hs,h1],tL h2⟩
theorem oO {t:TypeId} {fs:Array Field} {ts:List TS} {xs ys:List AV} {vs us:Array Value} {b:Bool} (p4:P.underlying t=some (.struct fs)) (eB:P.stoodInHeld t=false) (vH:ef P 4 0 fs.toList=some ts) (hx:e7 P w D ι xs vs) (hy:e7 P w D ι ys us) (hv:e8 ts xs ys=some b):(Op.equal t (.agg vs) (.agg us)).run P w=.ok b w:=by
 obtain⟨l1,l2⟩:=pV hv
 have q:=qw (w:=w) 4 fs.toList 0 ts vH 9998 ab xs ys vs us b hx hy (by simpa[List.take_of_length_le,l1,l2]using hv)
 have KK:P.fieldsOf t=fs:=by simp[Program.fieldsOf,p4]
 unfold Op.equal
 rw[show Op.maxDepth=9999+1 from rfl,run_equalIn_struct w 9999 t _ _ (by rw[KK];exact p4) eB,KK,q]
theorem qp {cs:List AV} {v:Value} (h:cG P w D ι (.agg cs) v):∃vs,v=.agg vs/\e7 P w D ι cs vs:=by
 obtain⟨vs,f,rfl,n1,_,f1,r1⟩:=iv h
 exact⟨vs,rfl,n1,fun j a ha=>⟨f j,f1 j (List.getElem?_eq_some_iff.1 ha).1,r1 j a ha⟩⟩
theorem zk {t:TypeId} {fs:Array Field} {ts:List TS} {xs:List AV} {vs:Array Value} (p4:P.underlying t=some (.struct fs)) (eB:P.stoodInHeld t=false) (vH:ef P 4 0 fs.toList=some ts) (hx:e7 P w D ι xs vs):∀(rows:List (List AV)) (es:List MapEntry) (i:Nat) (r:Option Nat),es.length=rows.length->
  (∀(j:Nat) (cs:List AV),rows[j]? =some cs->∃e:MapEntry,es[j]? =some e/\cG P w D ι (.agg (cs.take ts.length)) e.key)->gV ⟨true,ts⟩ xs rows i=some r->∃res,(Instr.findAsking t (.agg vs) es i).run P w=.ok res w/\Found es i r res
 |[],[],i,r,_,_,h=>by
  simp[gV]at h;subst h
  exact⟨none,by simp[Instr.findAsking],.inl ⟨rfl,rfl⟩⟩
 |[],e::es,i,r,hl,_,h=>by simp at hl
 |cs::rows,[],i,r,hl,_,h=>by simp at hl
 |cs::rows,e::es,i,r,hl,hr,h=>by
  obtain⟨e',Jj,gx⟩:=hr 0 cs rfl
  simp at Jj;subst Jj
  obtain⟨us,hk,hy⟩:=qp gx
  unfold gV at h
  simp only[MK.ks]at h
  split at h
  ·rename_i hq
   simp at h;subst h
   have q:=oO p4 eB vH hx hy hq
   exact⟨some (i,e.val),by simp[Instr.findAsking,hk,q],.inr ⟨0,e,rfl,rfl,rfl⟩⟩
  ·rename_i hq
   have q:=oO p4 eB vH hx hy hq
   obtain⟨res,h1,h2⟩:=zk p4 eB vH hx rows es (i+1) r (by simpa using hl) (fun j cs hj=>hr (j+1) cs (by simpa using hj)) h
   exact⟨res,by simp[Instr.findAsking,hk,q,h1],tL h2⟩
  ·cases h
theorem tD {a:AV} (h:a.isAgg=false):a.cells=[a]:=by cases a<;>simp_all [AV.isAgg,AV.cells]
theorem tK {k:TypeId} {m:MK} {B:rQ} {r:Row} (hk:CN P k m) {key:AV} {u:Value} (hr:cG P w D ι key u) {es:Array MapEntry} (eY:es.size=r.rows.length)
  (hM:∀(i:Nat) (cs:List AV),r.rows[i]? =some cs->∃(e:MapEntry) (kv vv:AV),es[i]? =some e/\part m.ka m.ks cs=some kv/\cs[m.ks]? =some vv/\cG P w D ι kv e.key/\cG P w D ι vv e.val) {fi:Option Nat} (h:gN m key r.rows=some fi):
  (∀em,(Instr.checkKey em 10000 k u).run P w=.ok () w)/\∃res,(Instr.findKey k u es.toList).run P w=.ok res w/\Found es.toList 0 fi res:=by
 unfold gN at h
 split at h
 ·rename_i hc
  obtain⟨c1,c2,c3⟩:=hc
  refine⟨fun em=>Cp hk em key u c1 c2 hr,?_⟩
  rcases hk with⟨s,rfl,hs⟩|⟨fs,ts,rfl,p4,vH,eB,dt⟩
  ·rw[tD c1]at h
   have hd:∃d,P.underlying k=some d:=by
    cases s with
    |tB=>exact⟨_,ot hs⟩
    |tS=>exact⟨_,ov hs⟩
    |tI=>obtain⟨q,hq⟩:=ou hs;exact⟨_,hq⟩
   obtain⟨d,hd⟩:=hd
   obtain⟨res,h1,h2⟩:=zl hs hd hr r.rows es.toList 0 fi (by simpa using eY) (fun j cs hj=>by
    obtain⟨e,kv,vv,q1,q2,_,q4,_⟩:=hM j cs hj
    exact⟨e,kv,by simpa using q1,by simpa[part]using q2,q4⟩) h
   exact⟨res,by simp[Instr.findKey,run_underlying hd,h1],h2⟩
  ·cases key<;>simp[AV.isAgg]at c1
   rename_i cs
   obtain⟨vs,rfl,hL⟩:=qp hr
   obtain⟨res,h1,h2⟩:=zk p4 eB vH hL r.rows es.toList 0 fi (by simpa using eY) (fun j cs hj=>by
    obtain⟨e,kv,vv,q1,q2,_,q4,_⟩:=hM j cs hj
    unfold part at q2
    simp only[if_true]at q2
    split at q2
    ·simp only[Option.some.injEq]at q2;subst q2
     exact⟨e,by simpa using q1,q4⟩
    ·cases q2) h
   exact⟨res,(run_findKey_eq w (by simp[p4]) _ _).trans h1,h2⟩
 ·cases h
section
variable {g:Rows} {hs:Nat} {env:Env} {a:Act} {o:Oper} {id:Id} {v:AV}
theorem xZ {m:MK} {x:AV} {u:Value} {p:Id×Row} (S:fW P hs D ι g w) (hr:cG P w D ι x u) (h:dX g m x=some p):∃B,u=.map (some B.b)/\g p.1=some p.2/\ι p.1=some B/\B.k=some (.map m)/\KA P w D ι B m p.2:=by
 unfold dX at h
 split at h
 ·rename_i i m'
  split at h
  ·rename_i hm
   subst hm
   simp only[Option.map_eq_some_iff]at h
   obtain⟨r,hg,rfl⟩:=h
   obtain⟨B,rfl,hB,hk⟩:=Kc hr
   obtain⟨B',dz,R,_⟩:=S.row i r hg
   rw[hB]at dz;injection dz with dz;subst dz
   exact⟨B,rfl,hg,hB,hk,(R.map _ hk).2⟩
  ·cases h
 ·cases h
theorem Nn {t:TypeId} {x k:Operand} {ok:Bool} {m:MK} {z:K} {x' k':O} {mr:Option Row} (S:fW P hs D ι g w) (E:bI P w D ι env a) (ho:o.op=.lookup t x k ok) (hc:qZ P t=some (m,z)) (hx:cO P x=some x') (hk:cO P k=some k')
  (hv:bD (.look m ok z) [cE env x',cE env k'] g id=some (v,mr)):mr=none/\np P a o w D ι v:=by
 obtain⟨kt,e,i,zv,ht,hi,tV,Qr,hK⟩:=pQ hc
 simp only[bD,Option.bind_eq_some_iff,Option.map_eq_some_iff,Prod.mk.injEq]at hv
 obtain⟨p,hp,fi,KJ,y,hy,rfl,rfl⟩:=hv
 obtain⟨B,hu,hg,hB,s4,es,clock,hb,eY,hlen,hM⟩:=xZ S (cN E hx) hp
 obtain⟨Ip,res,hf,hF⟩:=tK (B:=B) hK (cN E hk) eY hM KJ
 have key:∃val,(match res with|some (_,v)=>(v,true)|none=>(zv,false))=(val,fi.isSome)/\cG P w D ι y val:=by
  rcases hF with⟨rfl,rfl⟩|⟨j,en,rfl,he,rfl⟩
  ·simp only[eh,Option.some.injEq]at hy;subst hy
   refine⟨zv,rfl,?_⟩
   rw[xQ Qr];exact ux z
  ·simp only[eh,Option.bind_eq_some_iff,Nat.zero_add]at hy
   obtain⟨cs,dn,hy⟩:=hy
   obtain⟨e',kv,vv,q1,_,q3,_,q5⟩:=hM _ cs dn
   rw[hy]at q3;injection q3 with q3;subst q3
   have:e'=en:=by
    have h1:es.toList[j]? =some e':=by simpa using q1
    rw[he]at h1;injection h1 with h1;exact h1.symm
   subst this
   exact⟨_,rfl,q5⟩
 obtain⟨val,qe,ll⟩:=key
 have dp:(getObj B.b).run P w=.ok (.map es clock) w:=MapKept.run_getObj_map hb
 have hz:(zeroValue e).run P w=.ok zv w:=by simp[zeroValue,typeInfo,hi,tV]
 refine⟨rfl,if ok then .tuple #[val,.bool fi.isSome]else val,?_,?_⟩
 ·simp only[execOp,ho,hu,Instr.lookup,Sem.run_bind,run_underlying ht,Result.andThen_ok,dp,Sem.run_pure,Ip,hf]
  rcases hF with⟨rfl,rfl⟩|⟨j,en,rfl,he,rfl⟩
  ·simp only[Prod.mk.injEq]at qe
   simp[hz,qe.1]
  ·simp only[Prod.mk.injEq]at qe
   simp[qe.1]
 ·cases ok with
  |false=>exact ll
  |true=>
   refine .gE _ _ (fun j=>if j=0 then val else .bool fi.isSome) rfl (fun j hj=>?_) (fun j b hj=>?_)
   ·have:j=0∨j=1:=by simp at hj;omega
    rcases this with rfl|rfl<;>rfl
   ·match j,hj with
    |0,hj=>simp at hj;subst hj;exact ll
    |1,hj=>simp at hj;subst hj;exact .eK _ _ (.bool _)
    |j+2,hj=>simp at hj
theorem Nr {t:TypeId} {x:Operand} {m:MK} {z:K} {x':O} {mr:Option Row} (S:fW P hs D ι g w) (E:bI P w D ι env a) (ho:o.op=.call {callee:=.builtin .len,args:= #[x],argTypes:= #[t]}) (hc:qZ P t=some (m,z)) (hx:cO P x=some x')
  (hv:bD (.len m) [cE env x'] g id=some (v,mr)):mr=none/\np P a o w D ι v:=by
 obtain⟨kt,e,i,zv,ht,hi,tV,Qr,hK⟩:=pQ hc
 simp only[bD,Option.map_eq_some_iff,Prod.mk.injEq]at hv
 obtain⟨p,hp,rfl,rfl⟩:=hv
 obtain⟨B,hu,hg,hB,s4,es,clock,hb,eY,hlen,hM⟩:=xZ S (cN E hx) hp
 have dp:(getObj B.b).run P w=.ok (.map es clock) w:=MapKept.run_getObj_map hb
 refine⟨rfl,.int .i64 (es.size:Int),?_,by rw[eY];exact .eK _ _ (.int _ _)⟩
 simp only[execOp,ho,resolve,Sem.run_bind,Sem.run_pure,Result.andThen_ok,invoke,builtin,Array.map,hu]
 simp[Builtin.len_,run_underlying ht,goInt,hu,dp]
def MkM (P:Program) (a:Act) (o:Oper) (w:World) (id:Id) (v:AV) (r:Row):Prop:=
 ∃m,(execOp a.eval o).run P w=.ok (.value (.map (some w.heap.size))) (w.alloc (.map #[] 0))/\v=.map id m/\r=⟨true,m.Co,[]⟩
theorem Pr {t:TypeId} {m:MK} (ho:o.op=.makeMap t none):MkM P a o w id (.map id m) ⟨true,m.Co,[]⟩:=by
 refine⟨m,?_,rfl,rfl⟩
 simp[execOp,ho,Instr.makeMap,go_sem]
def MkC (P:Program) (a:Act) (o:Oper) (w:World) (id:Id) (v:AV) (r:Row):Prop:=
 ∃n,(execOp a.eval o).run P w=.ok (.value (.chan (some w.heap.size))) (w.alloc (.chan n #[] false 0 0 false))/\v=.rf id/\r=⟨true,pU+n,[]⟩
theorem MG {t e:TypeId} {x:Operand} {x':O} {dir:ChanDir} {i:TypeInfo} {n:Nat} (E:bI P w D ι env a) (ho:o.op=.makeChan t x) (ht:P.underlying t=some (.chan dir e)) (hi:P.info? e=some i) (hb:i.bytes<=32768) (hx:cO P x=some x') (hn:cW (cE env x')=some n):MkC P a o w id (.rf id) ⟨true,pU+n,[]⟩:=by
 refine⟨n,?_,rfl,rfl⟩
 have hr:=cN E hx
 unfold cW at hn
 split at hn
 ·rename_i k m hm
  rw[hm]at hr
  split at hn
  ·rename_i hc
   simp only[Option.some.injEq]at hn
   subst hn
   have KR:((m.toNat:Nat):Int)=m:=ab
   have dR:(i.bytes:Int)*(m.toNat:Nat)<=281474976710544:=by
    have h1:i.bytes*m.toNat<=32768*1048576:=Nat.mul_le_mul hb ab
    have h2:((i.bytes*m.toNat:Nat):Int)<=281474976710544:=ab
    rwa [Int.natCast_mul]at h2
   have h:=Conc.run_makeChan (P:=P) (w:=w) ht hi k m.toNat ab dR
   rw[KR]at h
   simp only[execOp,ho,dj hr,Sem.run_bind,h,Result.andThen_ok,Sem.run_pure]
  ·cases hn
 ·cases hn
theorem xo {x:AV} {u:Value} {i:Id} {r:Row} (S:fW P hs D ι g w) (hr:cG P w D ι x u) (hx:x=.rf i) (hg:g i=some r):∃B c,u=.chan (some B.b)/\ι i=some B/\B.k=some (.chan c)/\r.sz=pU+c/\F1 P w D ι B c r:=by
 subst hx
 obtain⟨B,c,rfl,hB,hk⟩:=J9 hr
 obtain⟨B',dz,R,_⟩:=S.row i r hg
 rw[hB]at dz;injection dz with dz;subst dz
 exact⟨B,c,rfl,hB,hk,R.chan c hk⟩
theorem Nk {t e:TypeId} {dir:ChanDir} {x:Operand} {x':O} (S:fW P hs D ι g w) (E:bI P w D ι env a) (ho:o.op=.call {callee:=.builtin .len,args:= #[x],argTypes:= #[t]}) (ht:P.underlying t=some (.chan dir e)) (hx:cO P x=some x') (hv:cU g (cE env x')=some v):np P a o w D ι v:=by
 have hr:=cN E hx
 unfold cU at hv
 split at hv
 ·rename_i i he
  simp only[Option.map_eq_some_iff]at hv
  obtain⟨r,hg,rfl⟩:=hv
  obtain⟨B,c,hu,hB,hk,eY,buf,s,q,hb,Im,_⟩:=xo S hr he hg
  have dp:(getObj B.b).run P w=.ok (.chan c buf false s q false) w:=by simp[getObj,Sem.run,hb]
  refine⟨.int .i64 (buf.size:Int),?_,by rw[Im];exact .eK _ _ (.int _ _)⟩
  simp only[execOp,ho,resolve,Sem.run_bind,Sem.run_pure,Result.andThen_ok,invoke,builtin,Array.map,hu]
  simp[Builtin.len_,run_underlying ht,goInt,hu,dp]
 ·cases hv
end
end Go.Proofs.YtihgaadadaekmaaGreat.V

namespace Go.Proofs.YtihgaadadaekmaaGreat.V
open Go.RowKit
variable {P:Program} {w w':World} {D D':Nat->Prop} {ι ι':Names}
def IL (P:Program) (a:Act) (o:Oper) (w:World) (D:Nat->Prop) (ι:Names) (id:Id) (v:AV):Option Row->Prop
 |none=>np P a o w D ι v
 |some r=>Mk P a o w D ι id v r∨MkM P a o w id v r∨MkC P a o w id v r
section
variable {g:Rows} {hs:Nat} {env:Env} {a:Act} {o:Oper} {id:Id} {v:AV}
theorem kP {x:Option AV} {mr:Option Row} (h:x.map (·,(none:Option Row))=some (v,mr)) (H:x=some v->np P a o w D ι v):IL P a o w D ι id v mr:=by
 cases x with
 |none=>simp at h
 |some y=>simp at h;obtain⟨rfl,rfl⟩:=h;exact H rfl
theorem Pz {neg:Bool} {t yt:TypeId} {x y:Operand} {vo:fP} {mr:Option Row} (ho:o.op=.binOp (if neg then .neq else .eql) t x y yt) (hc:qY P neg t x y=some vo) (hq:eM vo (cE env) g id=some (v,mr)) (E:bI P w D ι env a):IL P a o w D ι id v mr:=by
 unfold qY at hc
 split at hc
 ·split at hc
  ·rename_i e ht
   simp only[Option.map_eq_some_iff]at hc
   obtain⟨x',hx,rfl⟩:=hc
   simp only[eM,ep,Bool.false_eq_true,if_false,Option.map_eq_some_iff,Prod.mk.injEq]at hq
   obtain⟨b,hb,rfl,rfl⟩:=hq
   exact Ng E ho ht hx hb
  ·simp at hc
 ·split at hc
  ·rename_i ht
   simp only[Option.map_eq_some_iff]at hc
   obtain⟨x',hx,rfl⟩:=hc
   simp only[eM,ep,if_true,Option.map_eq_some_iff,Prod.mk.injEq]at hq
   obtain⟨b,hb,rfl,rfl⟩:=hq
   exact Nf E ho ht hx hb
  ·simp at hc
 ·split at hc
  ·rename_i ht
   simp only[Option.map_eq_some_iff]at hc
   obtain⟨x',hx,rfl⟩:=hc
   simp only[eM,Option.map_eq_some_iff,Prod.mk.injEq]at hq
   obtain⟨b,hb,rfl,rfl⟩:=hq
   exact PQ E ho ht hx hb
  ·simp at hc
 ·split at hc
  ·rename_i s hs
   simp only[Option.bind_eq_bind,Option.bind_eq_some_iff,Option.pure_def,Option.some.injEq]at hc
   obtain⟨x',hx,y',hy,rfl⟩:=hc
   simp only[eM,Option.map_eq_some_iff,Prod.mk.injEq]at hq
   obtain⟨b,hb,rfl,rfl⟩:=hq
   have zG:eZ P t=some s:=by
    unfold QV at hs
    split at hs
    ·rename_i s' h;simp at hs;subst hs;exact h
    ·split at hs
     ·split at hs
      ·simp at hs
      ·simp at hs
     ·simp at hs
   exact PR E ho zG hx hy hb
  ·rename_i ts hs
   simp only[Option.bind_eq_bind,Option.bind_eq_some_iff,Option.pure_def,Option.some.injEq]at hc
   obtain⟨x',hx,y',hy,rfl⟩:=hc
   simp only[eM]at hq
   split at hq
   ·rename_i xs ys h1 h2
    simp only[Option.map_eq_some_iff,Prod.mk.injEq]at hq
    obtain⟨b,hb,rfl,rfl⟩:=hq
    unfold QV at hs
    split at hs
    ·simp at hs
    ·split at hs
     ·rename_i fs p4
      split at hs
      ·rename_i hg
       simp only[Option.map_eq_some_iff,QN.ag.injEq]at hs
       obtain⟨Lc,vH,rfl⟩:=hs
       simp only[Bool.and_eq_true,Bool.not_eq_true']at hg
       exact PO E ho p4 hg.1 hg.2 vH hx hy h1 h2 hb
      ·simp at hs
     ·simp at hs
   ·simp at hq
  ·simp at hc
theorem MP {c:Call} {vo:fP} {mr:Option Row} (ho:o.op=.call c) (hc:mK P c=some vo) (hq:eM vo (cE env) g id=some (v,mr)) (S:fW P hs D ι g w) (E:bI P w D ι env a):IL P a o w D ι id v mr:=by
 unfold mK at hc
 split at hc
 ·rename_i j4
  split at hc
  ·rename_i x t h1 h2
   have hce:c={callee:=.builtin .len,args:= #[x],argTypes:= #[t]}:=by
    obtain⟨a,b,c⟩:=c
    simp only at h1 h2 j4
    subst j4
    congr
    ·exact Array.ext' h1
    ·exact Array.ext' h2
   rw[hce]at ho
   split at hc
   ·rename_i e ht
    simp only[Option.map_eq_some_iff]at hc
    obtain⟨x',hx,rfl⟩:=hc
    simp only[eM,Option.map_eq_some_iff,Prod.mk.injEq]at hq
    obtain⟨n,hn,rfl,rfl⟩:=hq
    exact PS E ho ht hx hn
   ·rename_i ht
    simp only[Option.map_eq_some_iff]at hc
    obtain⟨x',hx,rfl⟩:=hc
    exact kP hq fun h=>Nl E ho ht hx h
   ·split at hc
    ·rename_i m z x' hm hx
     simp only[Option.some.injEq]at hc
     subst hc
     obtain⟨rfl,h⟩:=Nr (id:=id) S E ho hm hx hq
     exact h
    ·cases hc
   ·rename_i ht
    simp only[Option.map_eq_some_iff]at hc
    obtain⟨x',hx,rfl⟩:=hc
    exact kP hq fun h=>Nk S E ho ht hx h
   ·simp at hc
  ·simp at hc
 ·split at hc
  ·split at hc
   ·split at hc
    ·split at hc
     ·simp only[Option.bind_eq_bind,Option.bind_eq_some_iff,Option.pure_def,Option.some.injEq]at hc
      obtain⟨x',hx,y',hy,rfl⟩:=hc
      simp[eM]at hq
     ·simp at hc
    ·simp at hc
   ·simp at hc
  ·simp at hc
 ·split at hc
  ·split at hc
   ·split at hc
    ·simp only[Option.map_eq_some_iff]at hc
     obtain⟨x',hx,rfl⟩:=hc
     simp[eM]at hq
    ·simp at hc
   ·simp at hc
  ·simp at hc
 ·split at hc
  ·simp only[Option.map_eq_some_iff]at hc
   obtain⟨x',hx,rfl⟩:=hc
   simp[eM]at hq
  ·simp at hc
 ·simp only[Option.map_eq_some_iff]at hc
  obtain⟨x',hx,rfl⟩:=hc
  simp[eM]at hq
 ·split at hc
  ·split at hc
   ·simp only[Option.some.injEq]at hc
    subst hc
    simp[eM]at hq
   ·cases hc
  ·cases hc
 ·split at hc
  ·split at hc
   ·split at hc
    ·simp only[Option.bind_eq_bind,Option.bind_eq_some_iff,Option.pure_def,Option.some.injEq]at hc
     obtain⟨x',hx,y',hy,rfl⟩:=hc
     simp[eM]at hq
    ·simp at hc
   ·simp at hc
  ·simp at hc
 ·simp at hc
theorem wY {vo:fP} {mr:Option Row} (hc:pC P o.op=some vo) (hq:eM vo (cE env) g id=some (v,mr)) (S:fW P hs D ι g w) (E:bI P w D ι env a):IL P a o w D ι id v mr:=by
 unfold pC at hc
 split at hc
 ·rename_i ho
  simp only[Option.map_eq_some_iff]at hc
  obtain⟨x',hx,rfl⟩:=hc
  simp[eM]at hq;obtain⟨rfl,rfl⟩:=hq
  exact Lf E (.inl ho) hx
 ·rename_i ho
  simp only[Option.map_eq_some_iff]at hc
  obtain⟨x',hx,rfl⟩:=hc
  simp[eM]at hq;obtain⟨rfl,rfl⟩:=hq
  exact Lf E (.inr ho) hx
 ·rename_i ho
  simp only[Option.bind_eq_bind,Option.bind_eq_some_iff,Option.pure_def,Option.some.injEq]at hc
  obtain⟨c',h1,x',h2,y',h3,rfl⟩:=hc
  exact kP hq fun h=>Nt E ho h1 h2 h3 h
 ·rename_i ho
  simp only[Option.map_eq_some_iff]at hc
  obtain⟨z,hz,rfl⟩:=hc
  simp only[eM,Option.some.injEq,Prod.mk.injEq]at hq
  obtain⟨rfl,rfl⟩:=hq
  exact .inl (Ps ho hz)
 ·rename_i ho
  simp only[Option.map_eq_some_iff]at hc
  obtain⟨x',hx,rfl⟩:=hc
  simp only[eM,Option.map_eq_some_iff,Prod.mk.injEq]at hq
  obtain⟨cs,dn,rfl,rfl⟩:=hq
  exact .inl (Pq E ho hx dn)
 ·rename_i ho
  simp only[Option.bind_eq_bind,Option.bind_eq_some_iff,Option.pure_def,Option.some.injEq]at hc
  obtain⟨ag,h1,n,h2,x',h3,rfl⟩:=hc
  exact kP hq fun h=>Nm S E ho h1 h2 h3 h
 ·rename_i ho
  simp only[Option.bind_eq_bind,Option.bind_eq_some_iff,Option.pure_def,Option.some.injEq]at hc
  obtain⟨n,h2,x',h3,y',h4,rfl⟩:=hc
  simp[eM]at hq
 ·rename_i ho
  simp only[Option.map_eq_some_iff]at hc
  obtain⟨x',hx,rfl⟩:=hc
  exact kP hq fun h=>PN E ho hx h
 ·rename_i op t x y yt ho
  unfold tt at hc
  split at hc
  ·exact Pz (neg:=false) ho hc hq E
  ·exact Pz (neg:=true) ho hc hq E
  ·simp only[Option.bind_eq_bind,Option.bind_eq_some_iff,Option.pure_def,Option.some.injEq]at hc
   obtain⟨x',h3,y',h4,rfl⟩:=hc
   exact kP hq fun h=>PV (left:=true) E ho h3 h4 h
  ·simp only[Option.bind_eq_bind,Option.bind_eq_some_iff,Option.pure_def,Option.some.injEq]at hc
   obtain⟨x',h3,y',h4,rfl⟩:=hc
   exact kP hq fun h=>PV (left:=false) E ho h3 h4 h
  ·rename_i n1 n2 n3 n4
   split at hc
   ·simp only[Option.bind_eq_bind,Option.bind_eq_some_iff,Option.pure_def,Option.some.injEq]at hc
    obtain⟨x',h3,y',h4,rfl⟩:=hc
    exact kP hq fun h=>PM E ho n1 n2 h3 h4 h
   ·simp only[Option.bind_eq_bind,Option.bind_eq_some_iff,Option.pure_def,Option.some.injEq]at hc
    obtain⟨x',h3,y',h4,rfl⟩:=hc
    exact kP hq fun h=>Nc E ho n1 n2 h3 h4 h
   ·simp at hc
 ·rename_i ho
  simp only[Option.map_eq_some_iff]at hc
  obtain⟨x',hx,rfl⟩:=hc
  exact kP hq fun h=>PU E ho hx h
 ·rename_i ho
  simp only[Option.map_eq_some_iff]at hc
  obtain⟨x',hx,rfl⟩:=hc
  exact kP hq fun h=>PT E ho hx h
 ·rename_i ho
  split at hc
  ·rename_i q k h1 h2
   simp only[Option.map_eq_some_iff]at hc
   obtain⟨x',hx,rfl⟩:=hc
   exact kP hq fun h=>Nd E ho h1 h2 hx h
  ·rename_i h1 h2
   simp only[Option.map_eq_some_iff]at hc
   obtain⟨x',hx,rfl⟩:=hc
   exact kP hq fun h=>by
    have hr:=cN E hx
    unfold bU at h
    split at h
    ·rename_i s hb
     simp at h;subst h
     rw[hb]at hr
     exact⟨.string s,by simp only[execOp,ho,eV hr,convert,Sem.run_bind,run_underlying h1,run_underlying h2,Result.andThen_ok,Sem.run_pure],.eK _ _ (.str _)⟩
    ·simp at h
  ·simp at hc
 ·rename_i ho
  split at hc
  ·rename_i e ht
   simp only[Option.bind_eq_bind,Option.bind_eq_some_iff,Option.pure_def,Option.some.injEq]at hc
   obtain⟨n,h1,x',h2,lo,h3,hi,h4,rfl⟩:=hc
   exact kP hq fun h=>Kx S E ho ht h1 h2 h3 h4 h
  ·rename_i ht
   simp only[Option.bind_eq_bind,Option.bind_eq_some_iff,Option.pure_def,Option.some.injEq]at hc
   obtain⟨x',h2,lo,h3,hi,h4,rfl⟩:=hc
   exact kP hq fun h=>Ih E ho ht h2 h3 h4 h
  ·simp at hc
 ·rename_i ho
  split at hc
  ·rename_i fs p4
   split at hc
   ·rename_i f hf
    split at hc
    ·rename_i m hm
     simp only[Option.map_eq_some_iff]at hc
     obtain⟨x',hx,rfl⟩:=hc
     exact kP hq fun h=>Ku E ho p4 hf hm hx h
    ·simp at hc
   ·simp at hc
  ·simp at hc
 ·rename_i ho
  split at hc
  ·rename_i fs p4
   split at hc
   ·rename_i f hf
    simp only[Option.bind_eq_bind,Option.bind_eq_some_iff,Option.pure_def,Option.some.injEq]at hc
    obtain⟨ag,h1,n,h2,x',h3,rfl⟩:=hc
    exact kP hq fun h=>Kv E ho p4 hf h1 h2 h3 h
   ·simp at hc
  ·simp at hc
 ·rename_i ho
  split at hc
  ·rename_i e ht
   split at hc
   ·rename_i m hm
    simp only[Option.bind_eq_bind,Option.bind_eq_some_iff,Option.pure_def,Option.some.injEq]at hc
    obtain⟨x',h1,i',h2,rfl⟩:=hc
    exact kP hq fun h=>Kw S E ho ht hm h1 h2 h
   ·simp at hc
  ·rename_i len e ht
   split at hc
   ·rename_i m hm
    simp only[Option.bind_eq_bind,Option.bind_eq_some_iff,Option.pure_def,Option.some.injEq]at hc
    obtain⟨x',h1,i',h2,rfl⟩:=hc
    exact kP hq fun h=>Nh E ho ht hm h1 h2 h
   ·simp at hc
  ·simp at hc
 ·rename_i ho
  split at hc
  ·rename_i ht
   simp only[Option.bind_eq_bind,Option.bind_eq_some_iff,Option.pure_def,Option.some.injEq]at hc
   obtain⟨x',h1,i',h2,rfl⟩:=hc
   exact kP hq fun h=>Nj E ho ht h1 h2 h
  ·rename_i len e ht
   simp only[Option.bind_eq_bind,Option.bind_eq_some_iff,Option.pure_def,Option.some.injEq]at hc
   obtain⟨ag,h0,n,h1,x',h2,i',h3,rfl⟩:=hc
   exact kP hq fun h=>Ni E ho ht h0 h1 h2 h3 h
  ·simp at hc
 ·rename_i ho
  simp only[Option.map_eq_some_iff]at hc
  obtain⟨x',hx,rfl⟩:=hc
  exact kP hq fun h=>FM E ho hx h
 ·rename_i ho
  split at hc
  ·rename_i fs p4
   split at hc
   ·rename_i z l hz hl
    split at hc
    ·rename_i dt
     simp only[Option.map_eq_some_iff]at hc
     obtain⟨q,G0,rfl⟩:=hc
     simp only[eM,Option.map_eq_some_iff,Prod.mk.injEq]at hq
     obtain⟨cs,dn,rfl,rfl⟩:=hq
     exact Kt E ho p4 hz hl (fun f hf=>by
      rw[Array.all_eq_true_iff_forall_mem]at dt
      exact dt f (Array.mem_toList_iff.1 hf)) G0 dn
    ·simp at hc
   ·simp at hc
  ·rename_i len e ht
   split at hc
   ·rename_i z l n hz hl hn
    simp only[Option.some.injEq]at hc
    subst hc
    simp only[eM,Option.map_eq_some_iff,Prod.mk.injEq]at hq
    obtain⟨cs,dn,rfl,rfl⟩:=hq
    exact Ig E ho ht hz hl hn dn
   ·simp at hc
  ·simp at hc
 ·rename_i ho
  split at hc
  ·rename_i e ht
   split at hc
   ·rename_i sz z l h1 h2 h3
    split at hc
    ·rename_i hh
     simp only[Option.some.injEq]at hc
     subst hc
     simp only[eM,Option.map_eq_some_iff,Prod.mk.injEq]at hq
     obtain⟨rs,wE,rfl,rfl⟩:=hq
     exact .inl (Hj E ho ht h1 h2 h3 hh.1 hh.2 (by rw[List.map_map]at wE;exact wE))
    ·simp at hc
   ·simp at hc
  ·simp at hc
 ·rename_i ho
  split at hc
  ·rename_i hh
   simp only[Option.map_eq_some_iff]at hc
   obtain⟨l,hl,rfl⟩:=hc
   simp[eM]at hq;obtain⟨rfl,rfl⟩:=hq
   exact Np E ho hh.1 hh.2 hl
  ·split at hc
   ·rename_i hh
    simp only[Option.map_eq_some_iff]at hc
    obtain⟨l,hl,rfl⟩:=hc
    simp[eM]at hq;obtain⟨rfl,rfl⟩:=hq
    exact Nq E ho hh.1 hh.2 hl
   ·simp at hc
 ·rename_i ho
  split at hc
  ·rename_i e ht
   split at hc
   ·rename_i m z i h1 h2 h3
    split at hc
    ·rename_i hb
     simp only[Option.bind_eq_bind,Option.bind_eq_some_iff,Option.pure_def,Option.some.injEq]at hc
     obtain⟨l',h4,c',h5,rfl⟩:=hc
     simp only[eM,Option.map_eq_some_iff,Prod.mk.injEq]at hq
     obtain⟨⟨n,r⟩,hr,rfl,rfl⟩:=hq
     exact .inl (E3 E ho ht h1 h2 h3 hb h4 h5 hr)
    ·simp at hc
   ·simp at hc
  ·simp at hc
 ·rename_i ho
  exact MP ho hc hq S E
 ·rename_i ho
  split at hc
  ·rename_i dir e ht
   split at hc
   ·rename_i i hi
    split at hc
    ·rename_i hb
     simp only[Option.map_eq_some_iff]at hc
     obtain⟨x',hx,rfl⟩:=hc
     simp only[eM,Option.map_eq_some_iff,Prod.mk.injEq]at hq
     obtain⟨n,hn,rfl,rfl⟩:=hq
     exact .inr (.inr (MG E ho ht hi hb hx hn))
    ·cases hc
   ·cases hc
  ·cases hc
 ·simp only[Option.bind_eq_bind,Option.bind_eq_some_iff,Option.pure_def,Option.some.injEq]at hc
  obtain⟨x',_,y',_,rfl⟩:=hc
  simp[eM]at hq
 ·split at hc
  ·split at hc
   ·simp only[Option.map_eq_some_iff]at hc
    obtain⟨x',_,rfl⟩:=hc
    simp[eM]at hq
   ·cases hc
  ·cases hc
 ·rename_i ho
  split at hc
  ·rename_i m z hm
   simp only[Option.some.injEq]at hc
   subst hc
   simp only[eM,List.map_nil,bD,Option.some.injEq,Prod.mk.injEq]at hq
   obtain⟨rfl,rfl⟩:=hq
   exact .inr (.inl (Pr ho))
  ·cases hc
 ·rename_i ho
  split at hc
  ·rename_i m z x' k' hm hx hk
   simp only[Option.some.injEq]at hc
   subst hc
   obtain⟨rfl,h⟩:=Nn (id:=id) S E ho hm hx hk hq
   exact h
  ·cases hc
 ·split at hc
  ·simp only[Option.some.injEq]at hc
   subst hc
   simp[eM]at hq
  ·cases hc
 ·split at hc
  ·simp only[Option.some.injEq]at hc
   subst hc
   simp[eM]at hq
  ·cases hc
 ·simp only[Option.some.injEq]at hc
  subst hc
  simp[eM]at hq
 ·simp only[Option.some.injEq]at hc
  subst hc
  simp[eM]at hq
 ·simp at hc
end
end Go.Proofs.YtihgaadadaekmaaGreat.V

namespace Go.Proofs.YtihgaadadaekmaaGreat.V
open Go.RowKit
variable {P:Program} {w w':World} {D D':Nat->Prop} {ι ι':Names}
def kI (ι:Names) (id:Id) (B:rQ):Names:=fun i=>if i=id then some B else ι i
theorem ea (ι:Names) (id:Id) (B:rQ):kI ι id B id=some B:=if_pos rfl
theorem fH {ι:Names} {id:Id} {B:rQ} (h:ι id=none):∀i B',ι i=some B'->kI ι id B i=some B':=fun i B' hi=>by
 have:i≠id:=by rintro rfl;rw[h]at hi;cases hi
 rw[kI,if_neg this];exact hi
theorem fG {ι:Names} {id i:Id} {B:rQ} (h:i≠id):kI ι id B i=ι i:=if_neg h
section
variable {g:Rows} {hs:Nat} {env:Env} {a:Act} {o:Oper} {id:Id} {v:AV}
theorem kS.frame {B:rQ} {r:Row} (h:kS P w D ι B r) (hb:w'.heap[B.b]? =w.heap[B.b]?) (hr:∀a v,cG P w D ι a v->cG P w' D' ι' a v):kS P w' D' ι' B r:=
 ⟨h.sz,by obtain⟨c,T,h1,h2⟩:=h.DW;exact⟨c,T,hb.trans h1,h2⟩,h.fits,h.len,h.flat,fun i j cs a hi hj=>by
  obtain⟨v,h1,h2⟩:=h.at_ i j cs a hi hj
  exact⟨v,(World.cell?_of_block (a:=⟨B.b,i*r.sz+j,none⟩) hb).trans h1,hr _ _ h2⟩⟩
theorem ik.frame {B:rQ} {r:Row} (h:ik P w D ι B r) (hb:w'.heap[B.b]? =w.heap[B.b]?) (hr:∀a v,cG P w D ι a v->cG P w' D' ι' a v):ik P w' D' ι' B r:=
 ⟨h.sz,h.flat,fun hk=>(h.row hk).frame hb hr,fun m hm=>by
  obtain⟨h1,es,c,h2,h3,h5,h4⟩:=h.map m hm
  refine⟨h1,es,c,hb.trans h2,h3,h5,fun i cs hi=>?_⟩
  obtain⟨e,kv,vv,q1,q2,q3,q4,q5⟩:=h4 i cs hi
  exact⟨e,kv,vv,q1,q2,q3,hr _ _ q4,hr _ _ q5⟩,fun c hc=>by
  obtain⟨h1,buf,s,q,h2,h3,h4⟩:=h.chan c hc
  refine⟨h1,buf,s,q,hb.trans h2,h3,fun i cs hi=>?_⟩
  obtain⟨a,u,q1,q2,q3⟩:=h4 i cs hi
  exact⟨a,u,q1,q2,hr _ _ q3⟩⟩
theorem fW.kill (S:fW P hs D ι g w) (i:Id):fW P hs D ι (bZ g i) w:=by
 refine⟨S.lo,S.dead,fun id r h=>?_,fun id ki r r' B B' h h' hw hB dz hb=>?_⟩
 ·unfold bZ at h;split at h
  ·cases h
  ·exact S.row id r h
 ·unfold bZ at h h'
  split at h
  ·cases h
  ·split at h'
   ·cases h'
   ·exact S.inj id ki r r' B B' h h' hw hB dz hb
theorem fW.sub {g':Rows} (S:fW P hs D ι g w) (h:∀id r,g' id=some r->g id=some r):fW P hs D ι g' w:=
 ⟨S.lo,S.dead,fun id r hr=>S.row id r (h id r hr),fun id ki r r' B B' h1 h2=>S.inj id ki r r' B B' (h _ _ h1) (h _ _ h2)⟩
theorem yv {hid:List Nat} {n:Nat} {g:Rows}:∀id r,fV hid n g id=some r->g id=some r:=fun id r h=>by
 cases hid with
 |nil=>exact h
 |cons a l=>
  have e:fV (a::l) n g id=if (a::l).contains id.site=true/\id.bY=n then none else g id:=rfl
  rw[e]at h
  by_cases hc:(a::l).contains id.site=true/\id.bY=n
  ·rw[if_pos hc]at h;cases h
  ·rw[if_neg hc]at h;exact h
theorem fW.stay (S:fW P hs D ι g w) (hb:∀b,b<w.heap.size->w'.heap[b]? =w.heap[b]?) (hz:w.heap.size<=w'.heap.size) (hD:∀b,D b->D' b) (hD':∀b,D' b->b<w'.heap.size) (kh:∀b,D' b->D b∨w.heap.size<=b) (hι:∀id B,ι id=some B->ι' id=some B):fW P hs D' ι' g w':=by
 have hr:∀a v,cG P w D ι a v->cG P w' D' ι' a v:=fun a v h=>h.frame (fun b hd=>hb b (S.dead b hd)) hD hι
 have lt:∀{id r B},g id=some r->ι id=some B->B.b<w.heap.size:=fun {id r B} h hB=>by
  obtain⟨B',dz,R,_⟩:=S.row id r h
  rw[hB]at dz;injection dz with dz;subst dz
  exact R.lt
 refine⟨Nat.le_trans S.lo hz,hD',fun id r h=>?_,fun id ki r r' B B' h h' hw hB dz he=>?_⟩
 ·obtain⟨B,hB,R,h1,h2⟩:=S.row id r h
  exact⟨B,hι _ _ hB,R.frame (hb _ (lt h hB)) hr,h1,fun hw hd=>by
   rcases kh _ hd with hd|hd
   ·exact h2 hw hd
   ·have:=lt h hB;omega⟩
 ·obtain⟨C,hC,_⟩:=S.row id r h
  obtain⟨C',Br,_⟩:=S.row ki r' h'
  have e1:=hι _ _ hC
  have e2:=hι _ _ Br
  rw[hB]at e1;injection e1 with e1;subst e1
  rw[dz]at e2;injection e2 with e2;subst e2
  exact S.inj id ki r r' _ _ h h' hw hC Br he
theorem Step.stay (S:fW P hs D ι g w) (hb:∀b,b<w.heap.size->w'.heap[b]? =w.heap[b]?) (hz:w.heap.size<=w'.heap.size) (e1:w'.os=w.os) (e2:w'.tape=w.tape) (e3:w'.output=w.output) (hD:∀b,D b->D' b) (kh:∀b,D' b->D b∨w.heap.size<=b) (hι:∀id B,ι id=some B->ι' id=some B):Step hs D ι w D' ι' w':=
 ⟨⟨e1,e2,e3,hz,fun k hk=>hb k (Nat.lt_of_lt_of_le hk S.lo)⟩,fun b hd=>hb b (S.dead b hd),hD,hι,fun b h=>(kh b h).imp_right (Nat.le_trans S.lo)⟩
theorem fW.alloc (S:fW P hs D ι g w) {cells:Array Value} {T:TypeId} {r:Row} (hh:w'.heap=w.heap.push (.cells cells T (0,0))) (hn:ι id=none) (hw:r.w=true) (h1:r.rows.length*r.sz<=cells.size) (h2:∀cs∈r.rows,cs.length=r.sz) (h3:∀cs∈r.rows,∀a∈cs,a.cell=true)
  (h4:∀i j cs a,r.rows[i]? =some cs->cs[j]? =some a->∃x,cells[i*r.sz+j]? =some x/\cG P w D ι a x):fW P hs D (kI ι id ⟨w.heap.size,r.sz,cells.size,none⟩) (bS g id r) w':=by
 have hb:∀b,b<w.heap.size->w'.heap[b]? =w.heap[b]? :=fun b dR=>by rw[hh,Array.getElem?_push,if_neg ab]
 have hz:w.heap.size<=w'.heap.size:=by rw[hh];simp
 have S':=S.stay (D':=D) (ι':=kI ι id ⟨w.heap.size,r.sz,cells.size,none⟩) hb hz (fun _ h=>h) (fun b hd=>Nat.lt_of_lt_of_le (S.dead b hd) hz) (fun _ h=>.inl h) (fH hn)
 have hr:∀a v,cG P w D ι a v->cG P w' D (kI ι id ⟨w.heap.size,r.sz,cells.size,none⟩) a v:=fun a v h=>h.frame (fun b hd=>hb b (S.dead b hd)) (fun _ h=>h) (fH hn)
 have kh:w'.heap[w.heap.size]? =some (.cells cells T (0,0)):=by rw[hh];simp
 have gone:g id=none:=by
  cases hg:g id with
  |none=>rfl
  |some q=>
   obtain⟨B,hB,_⟩:=S.row id q hg
   rw[hn]at hB;cases hB
 have lt:∀{i q B},g i=some q->ι i=some B->B.b<w.heap.size:=fun {i q B} h hB=>by
  obtain⟨B',dz,R,_⟩:=S.row i q h
  rw[hB]at dz;injection dz with dz;subst dz
  exact R.lt
 refine⟨S'.lo,S'.dead,fun i q h=>?_,fun i i' q q' B B' h h' O3 hB dz he=>?_⟩
 ·unfold bS at h
  split at h
  ·rename_i e
   subst e
   injection h with h;subst h
   refine⟨_,ea _ _ _,kS.obj ⟨rfl,⟨cells,T,kh,rfl⟩,h1,h2,h3,fun k j cs a hk hj=>?_⟩ rfl,fun _=>S.lo,fun _ hd=>?_⟩
   ·obtain⟨x,hx,hrx⟩:=h4 k j cs a hk hj
    exact⟨x,by simp[World.cell?,kh,hx],hr _ _ hrx⟩
   ·have:=S.dead _ hd;simp at this
  ·exact S'.row i q h
 ·unfold bS at h h'
  split at h
  ·rename_i e
   split at h'
   ·rename_i e';exact e.trans e'.symm
   ·exfalso
    rename_i e'
    subst e
    rw[ea]at hB;injection hB with hB;subst hB
    rw[fG e']at dz
    have:=lt h' dz
    simp at he;omega
  ·rename_i e
   split at h'
   ·exfalso
    rename_i e'
    subst e'
    rw[ea]at dz;injection dz with dz;subst dz
    rw[fG e]at hB
    have:=lt h hB
    simp at he;omega
   ·exact S'.inj i i' q q' B B' h h' O3 hB dz he
theorem fW.put (S:fW P hs D ι g w) {r r':Row} {B:rQ} {cur cur':Array Value} {T:TypeId} (hid:g id=some r) (hw:r.w=true) (hB:ι id=some B) (l8:w.heap[B.b]? =some (.cells cur T (0,0))) (eY:cur'.size=cur.size)
  (h0:r'.w=true) (h1:r'.sz=r.sz) (h2:r'.rows.length*r'.sz<=B.C) (h3:∀cs∈r'.rows,cs.length=r'.sz) (h4:∀cs∈r'.rows,∀a∈cs,a.cell=true)
  (h5:∀i j cs a,r'.rows[i]? =some cs->cs[j]? =some a->∃v,cur'[i*r.sz+j]? =some v/\cG P w D ι a v):fW P hs D ι (bS g id r') (w.setRow B.b cur')/\Step hs D ι w D ι (w.setRow B.b cur'):=by
 obtain⟨B0,zz,RO,jS,k7⟩:=S.row id r hid
 rw[hB]at zz;injection zz with zz;subst zz
 have s8:=RO.JX l8
 have R:=RO.row s8
 have hd:∀b,D b->(w.setRow B.b cur').heap[b]? =w.heap[b]? :=fun b hb=>setRow_other w B.b b cur' (by rintro rfl;exact k7 hw hb)
 have hr:∀a v,cG P w D ι a v->cG P (w.setRow B.b cur') D ι a v:=fun a v h=>h.frame hd (fun _ h=>h) (fun _ _ h=>h)
 have hC:cur.size=B.C:=by
  obtain⟨c,T',h1,h2⟩:=R.DW
  rw[l8]at h1;injection h1 with h1;injection h1 with h1 Oy;subst h1;exact h2
 refine⟨⟨by simpa using S.lo,fun b hb=>by simpa using S.dead b hb,fun i q h=>?_,fun i i' q q' C C' h h' O3 hC Br he=>?_⟩,⟨⟨by simp,by simp,by simp,by simp,fun k hk=>setRow_other w B.b k cur' (by have:=jS hw;omega)⟩,hd,fun _ h=>h,fun _ _ h=>h,fun _ h=>.inl h⟩⟩
 ·unfold bS at h
  split at h
  ·rename_i e
   subst e
   injection h with h;subst h
   refine⟨B,hB,kS.obj ⟨by rw[h1];exact R.sz,⟨cur',T,setRow_heap w B.b cur cur' T _ l8,by rw[eY];exact hC⟩,h2,h3,h4,fun k j cs a hk hj=>?_⟩ s8,fun _=>jS hw,fun _=>k7 hw⟩
   obtain⟨v,hv,ll⟩:=h5 k j cs a hk hj
   exact⟨v,by rw[cell_setRow_same w B.b _ cur cur' T _ l8,h1];exact hv,hr _ _ ll⟩
  ·rename_i e
   obtain⟨C,hC,RC,k1,k2⟩:=S.row i q h
   refine⟨C,hC,RC.frame (setRow_other w B.b C.b cur' (fun KG=>e ?_)) hr,k1,k2⟩
   exact(S.inj id i r q B C hid h hw hB hC KG.symm).symm
 ·unfold bS at h h'
  have get:∀j p,(if j=id then some r' else g j)=some p->∃p0,g j=some p0/\(p.w=true->p0.w=true):=fun j p hp=>by
   split at hp
   ·rename_i e;subst e;injection hp with hp;subst hp;exact⟨r,hid,fun _=>hw⟩
   ·exact⟨p,hp,fun h=>h⟩
  obtain⟨p,hp,NN⟩:=get _ _ h
  obtain⟨p',IB,_⟩:=get _ _ h'
  exact S.inj i i' p p' C C' hp IB (NN O3) hC Br he
theorem fW.rename (S:fW P hs D ι g w) {i:Id} {r:Row} {B:rQ} (hi:g i=some r) (hw:r.w=true) (hB:ι i=some B) (hn:ι id=none):fW P hs D (kI ι id B) (bS (bZ g i) id r) w:=by
 have S':=S.stay (w':=w) (D':=D) (ι':=kI ι id B) (fun _ _=>rfl) (Nat.le_refl _) (fun _ h=>h) S.dead (fun _ h=>.inl h) (fH hn)
 have gU:i≠id:=by rintro rfl;rw[hn]at hB;cases hB
 obtain⟨B1,yG,R,k1,k2⟩:=S'.row i r hi
 rw[fG gU,hB]at yG;injection yG with yG;subst yG
 have get:∀j p,bS (bZ g i) id r j=some p->(j=id/\p=r)∨(j≠id/\j≠i/\g j=some p):=fun j p hp=>by
  unfold bS bZ at hp
  split at hp
  ·rename_i e;injection hp with hp;exact .inl ⟨e,hp.symm⟩
  ·rename_i e
   split at hp
   ·cases hp
   ·rename_i e';exact .inr ⟨e,e',hp⟩
 refine⟨S.lo,S.dead,fun j p h=>?_,fun j j' p p' C C' h h' NN hC Br he=>?_⟩
 ·rcases get j p h with⟨rfl,rfl⟩|⟨_,_,hp⟩
  ·exact⟨B,ea _ _ _,R,k1,k2⟩
  ·exact S'.row j p hp
 ·rcases get j p h with⟨rfl,rfl⟩|⟨q1,q2,hp⟩
  ·rcases get j' p' h' with⟨rfl,rfl⟩|⟨q1',q2',IB⟩
   ·rfl
   ·exfalso
    rw[ea]at hC;injection hC with hC;subst hC
    rw[fG q1']at Br
    exact q2' (S.inj i j' p p' B C' hi IB hw hB Br he).symm
  ·rcases get j' p' h' with⟨rfl,rfl⟩|⟨q1',q2',IB⟩
   ·exfalso
    rw[ea]at Br;injection Br with Br;subst Br
    rw[fG q1]at hC
    exact q2 (S.inj j i p p' C B hp hi NN hC hB he)
   ·rw[fG q1]at hC
    rw[fG q1']at Br
    exact S.inj j j' p p' C C' hp IB NN hC Br he
def AH (P:Program) (hs:Nat) (a:Act) (o:Oper) (w:World) (D:Nat->Prop) (ι:Names) (id:Id) (v:AV) (g':Rows):Prop:=
 ∃u w' ι',((execOp a.eval o).run P w=.ok (.value u) w'∨(execOp a.eval o).run P w=.ok .skip w'/\u=undef)/\Step hs D ι w D ι' w'/\fW P hs D ι' g' w'/\cG P w' D ι' v u/\∀i,i≠id->ι' i=ι i
theorem Ab {xs:List AV} {vs:Array Value} (h:e7 P w D ι xs vs) (hf:∀a∈xs,a.cell=true):∀v∈vs.toList,v.oneCell'=true:=by
 intro v hv
 obtain⟨j,hj,rfl⟩:=List.getElem_of_mem hv
 have KP:j<xs.length:=by rw[<-h.1];simpa using hj
 obtain⟨u,hu,hr⟩:=h.2 j _ (List.getElem?_eq_getElem KP)
 have hc:=hr.y9 (hf _ (List.getElem_mem KP))
 have:vs.toList[j]=u:=by
  have:vs.toList[j]? =some u:=by simpa using hu
  rw[List.getElem?_eq_getElem hj]at this;injection this
 rw[this]
 cases u<;>simp_all [Value.oneCell']
theorem js {i j n m:Nat} (h:i<n) (hj:j<m):i*m+j<n*m:=by
 have:(i+1)*m<=n*m:=Nat.mul_le_mul_right _ h
 rw[Nat.add_mul,Nat.one_mul]at this;omega
theorem kS.cur {B:rQ} {r:Row} (R:kS P w D ι B r):∃cur T,w.heap[B.b]? =some (.cells cur T (0,0))/\cur.size=B.C/\∀i j cs a,r.rows[i]? =some cs->cs[j]? =some a->∃v,cur[i*r.sz+j]? =some v/\cG P w D ι a v:=by
 obtain⟨cur,T,h1,h2⟩:=R.DW
 refine⟨cur,T,h1,h2,fun i j cs a hi hj=>?_⟩
 obtain⟨v,hv,hr⟩:=R.at_ i j cs a hi hj
 exact⟨v,by simpa[World.cell?,h1]using hv,hr⟩
theorem I4 {t:TypeId} {n:Nat} {x y:Operand} {x' y':O} {g':Rows} (S:fW P hs D ι g w) (E:bI P w D ι env a) (ho:o.op=.store t x y) (hn:dK P t=some n) (hx:cO P x=some x') (hy:cO P y=some y')
  (hv:bR g n (cE env y') (cE env x')=some g'):AH P hs a o w D ι id .undef g':=by
 have rx:=cN E hx
 have ry:=cN E hy
 unfold bR at hv
 split at hv
 ·rename_i i k off hp
  rw[hp]at rx
  simp only[Option.bind_eq_some_iff]at hv
  obtain⟨r,hg,cs,dn,hv⟩:=hv
  split at hv
  ·rename_i hc
   obtain⟨c1,c2,c3,c4⟩:=hc
   simp at hv;subst hv
   obtain⟨B,he,hB,hk⟩:=jb rx
   obtain⟨B',dz,R,jS,k7⟩:=S.row i r hg
   rw[hB]at dz;injection dz with dz;subst dz
   replace R:=R.row hk
   obtain⟨cur,T,l8,hC,tP⟩:=R.cur
   have hL:=pw ry c3
   have h1:=Ab hL (List.all_eq_true.1 c3)
   have Pb:(a.eval y).cells.size=n:=by rw[hL.1,c2]
   have lS:=(List.getElem?_eq_some_iff.1 dn).1
   have hlen:=R.len cs (List.mem_of_getElem? dn)
   have hbound:k*r.sz+r.sz<=r.rows.length*r.sz:=by
    have:(k+1)*r.sz<=r.rows.length*r.sz:=Nat.mul_le_mul_right _ lS
    rwa [Nat.add_mul,Nat.one_mul]at this
   have hf:=R.fits
   have eB:=run_storeCells_at P B.b (k*B.sz+off) T (a.eval y).cells.toList 0 cur w l8 (by rw[R.sz];simp only[Array.length_toList];omega) h1
   simp only[Nat.add_zero,Array.length_toList]at eB
   have xN:=S.put (r':={r with rows:=r.rows.set k (cH cs off (cE env y').cells)}) hg c1 hB l8 (cur':=(cur.toList.take (k*B.sz+off)++(a.eval y).cells.toList++cur.toList.drop (k*B.sz+off+(a.eval y).cells.size)).toArray)
    (by rw[R.sz];simp;omega) c1 rfl (by simpa using R.fits) (fun c Rs=>by
     rcases List.mem_or_eq_of_mem_set Rs with h|rfl
     ·exact R.len c h
     ·simp[cH];omega) (fun c Rs b hb=>by
     rcases List.mem_or_eq_of_mem_set Rs with h|rfl
     ·exact R.flat c h b hb
     ·unfold cH at hb
      rcases List.mem_append.1 hb with hb|hb
      ·rcases List.mem_append.1 hb with hb|hb
       ·exact R.flat cs (List.mem_of_getElem? dn) b (List.mem_of_mem_take hb)
       ·exact List.all_eq_true.1 c3 b hb
      ·exact R.flat cs (List.mem_of_getElem? dn) b (List.mem_of_mem_drop hb)) (fun i2 j c b vq hj=>by
     rw[R.sz]
     simp only[List.getElem?_toArray]
     by_cases wz:i2=k
     ·subst wz
      rw[List.getElem?_set_self lS]at vq
      injection vq with vq;subst vq
      unfold cH at hj
      by_cases hjo:j<off
      ·rw[List.append_assoc,List.getElem?_append_left (by simp;omega),List.getElem?_take,if_pos hjo]at hj
       rw[List.append_assoc,List.getElem?_append_left (by simp;omega),List.getElem?_take,if_pos ab]
       simpa using tP _ _ _ _ dn hj
      ·by_cases gw:j<off+n
       ·rw[List.append_assoc,List.getElem?_append_right (by simp;omega),List.getElem?_append_left (by simp;omega)]at hj
        rw[List.append_assoc,List.getElem?_append_right (by simp;omega),List.getElem?_append_left (by simp;omega)]
        simp only[List.length_take]at hj ⊢
        rw[show j-min off cs.length=j-off by omega]at hj
        rw[show i2*r.sz+j-min (i2*r.sz+off) cur.toList.length=j-off by simp;omega]
        simpa using hL.2 _ _ hj
       ·rw[List.getElem?_append_right (by simp;omega)]at hj
        rw[List.getElem?_append_right (by simp;omega)]
        simp only[List.length_append,List.length_take,List.getElem?_drop,Array.length_toList]at hj ⊢
        rw[show off+(cE env y').cells.length+(j-(min off cs.length+(cE env y').cells.length))=j by omega]at hj
        rw[show i2*r.sz+off+(a.eval y).cells.size+(i2*r.sz+j-(min (i2*r.sz+off) cur.size+(a.eval y).cells.size))=i2*r.sz+j by omega]
        simpa using tP _ _ _ _ dn hj
     ·rw[List.getElem?_set_ne (fun e=>wz e.symm)]at vq
      have hi2l:=(List.getElem?_eq_some_iff.1 vq).1
      have gG:j<r.sz:=by rw[<-R.len c (List.mem_of_getElem? vq)];exact(List.getElem?_eq_some_iff.1 hj).1
      have:=tP _ _ _ _ vq hj
      rcases Nat.lt_or_gt_of_ne wz with dR|Jm
      ·have h2:i2*r.sz+j<k*r.sz:=js dR gG
       rw[List.append_assoc,List.getElem?_append_left (by simp;omega),List.getElem?_take,if_pos ab]
       simpa using this
      ·have h2:k*r.sz+r.sz<=i2*r.sz:=by
        have:(k+1)*r.sz<=i2*r.sz:=Nat.mul_le_mul_right _ Jm
        rwa [Nat.add_mul,Nat.one_mul]at this
       rw[List.getElem?_append_right (by simp;omega)]
       simp only[List.length_append,List.length_take,List.getElem?_drop,Array.length_toList]
       rw[show k*r.sz+off+(a.eval y).cells.size+(i2*r.sz+j-(min (k*r.sz+off) cur.size+(a.eval y).cells.size))=i2*r.sz+j by omega]
       simpa using this)
   refine⟨undef,_,ι,.inr ⟨?_,rfl⟩,xN.2,xN.1,cG.undef,fun _ _=>rfl⟩
   simp only[execOp,ho,he,Instr.storeAt,Instr.sureAddr,storeVar,Sem.run_bind,Sem.run_pure,Result.andThen_ok,run_sizeOf hn,Pb,ne_eq,not_true_eq_false,if_false,eB]
  ·simp at hv
 ·simp at hv
end
end Go.Proofs.YtihgaadadaekmaaGreat.V

namespace Go.Proofs.YtihgaadadaekmaaGreat.V
open Go.RowKit
variable {P:Program} {w w':World} {D D':Nat->Prop} {ι ι':Names}
section
variable {g:Rows} {hs:Nat} {env:Env} {a:Act} {o:Oper} {id:Id} {v:AV}
theorem qt (S:fW P hs D ι g w) {y:AV} {u:Value} {ys:List (List AV)} {sz:Nat} (hr:cG P w D ι y u) (hy:bt g y=some ys) (hl:∀c∈ys,c.length=sz) (hf:∀c∈ys,∀b∈c,b.cell=true):
  ∃A c,u=.slice A ys.length c/\(ys=[]∨∃b o,∃news:List Value,A=some ⟨b,o,none⟩/\news.length=ys.length*sz/\(∀j v,news[j]? =some v->w.cell? ⟨b,o+j,none⟩=some v)/\e7 P w D ι ys.flatten news.toArray/\∀v∈news,v.oneCell'=true):=by
 have fin:∀b o,ys≠[]->(∀i j cs x,ys[i]? =some cs->cs[j]? =some x->∃v,w.cell? ⟨b,o+(i*sz+j),none⟩=some v/\cG P w D ι x v)->
   ∃news:List Value,news.length=ys.length*sz/\(∀j v,news[j]? =some v->w.cell? ⟨b,o+j,none⟩=some v)/\e7 P w D ι ys.flatten news.toArray/\∀v∈news,v.oneCell'=true:=by
  intro b o _ h
  have hlen:=GA hl
  have at_:∀k,k<ys.length*sz->∃x,ys.flatten[k]? =some x/\∃v,w.cell? ⟨b,o+k,none⟩=some v/\cG P w D ι x v:=by
   intro k hk
   have jq:0<sz:=by
    rcases Nat.eq_zero_or_pos sz with h0|h0
    ·subst h0;simp at hk
    ·exact h0
   have hi:k / sz<ys.length:=Nat.div_lt_of_lt_mul (by rw[Nat.mul_comm];exact hk)
   have hj:k % sz<sz:=Nat.mod_lt _ jq
   have dn:=List.getElem?_eq_getElem hi
   have gG:k % sz<ys[k / sz].length:=by rw[hl _ (List.getElem_mem hi)];exact hj
   have hx:=List.getElem?_eq_getElem gG
   have e:k / sz*sz+k % sz=k:=by rw[Nat.mul_comm];exact Nat.div_add_mod _ _
   refine⟨_,by rw[<-flat_get hl dn hx,e],?_⟩
   obtain⟨v,hv,ll⟩:=h _ _ _ _ dn hx
   rw[e]at hv
   exact⟨v,hv,ll⟩
  let news:=(List.range (ys.length*sz)).map fun k=>(w.cell? ⟨b,o+k,none⟩).getD undef
  have hn:∀k,k<ys.length*sz->∀v,w.cell? ⟨b,o+k,none⟩=some v->news[k]? =some v:=fun k hk v hv=>by
   simp only[news,List.getElem?_map,List.getElem?_range hk,Option.map_some,hv,Option.getD_some]
  have hR:e7 P w D ι ys.flatten news.toArray:=⟨by simp[news,hlen],fun j x hx=>by
   have gG:=(List.getElem?_eq_some_iff.1 hx).1
   rw[hlen]at gG
   obtain⟨x',u3,v,hv,ll⟩:=at_ j gG
   rw[hx]at u3;injection u3 with u3;subst u3
   exact⟨v,by simpa using hn j gG v hv,ll⟩⟩
  refine⟨news,by simp[news],fun j v hj=>?_,hR,?_⟩
  ·have gG:j<ys.length*sz:=by have:=(List.getElem?_eq_some_iff.1 hj).1;simpa[news]using this
   obtain⟨x,_,v',mZ,_⟩:=at_ j gG
   rw[hn j gG v' mZ]at hj
   injection hj with hj
   rw[<-hj];exact mZ
  ·have:=Ab hR (fun x hx=>by
    obtain⟨c,hc,Sb⟩:=List.mem_flatten.1 hx
    exact hf c hc x Sb)
   simpa using this
 unfold bt at hy
 split at hy
 ·simp at hy;subst hy
  exact⟨none,0,jL hr,.inl rfl⟩
 ·rename_i rows
  simp at hy;subst hy
  obtain⟨A,c,he,_,_,h3⟩:=uz hr
  refine⟨A,c,he,?_⟩
  rcases h3 with h3|⟨b,oo,sz',vs,rfl,hD,Iz,_,hc,hi⟩
  ·exact .inl h3
  ·by_cases h0:rows=[]
   ·exact .inl h0
   ·have zG:sz'=sz:=by
     cases rows with
     |nil=>exact(h0 rfl).elim
     |cons c r=>rw[<-Iz c (by simp),hl c (by simp)]
    subst zG
    obtain⟨news,q1,q2,q3,q4⟩:=fin b oo h0 (fun i j cs x dn hx=>⟨_,hc i j (List.getElem?_eq_some_iff.1 dn).1 (by rw[<-Iz cs (List.mem_of_getElem? dn)];exact(List.getElem?_eq_some_iff.1 hx).1),.eK _ _ (hi i j cs x dn hx)⟩)
    exact .inr ⟨b,oo,news,rfl,q1,q2,q3,q4⟩
 ·rename_i i off len
  simp only[Option.bind_eq_some_iff]at hy
  obtain⟨r,hg,hy⟩:=hy
  split at hy
  ·rename_i hle
   simp at hy;subst hy
   obtain⟨oo,cap,B,he,hB,h1,h2,h3,h4,hk⟩:=ja hr
   obtain⟨B',dz,R,_,_⟩:=S.row i r hg
   rw[hB]at dz;injection dz with dz;subst dz
   replace R:=R.row hk
   have hlen:((r.rows.drop off).take len).length=len:=by simp;omega
   refine⟨some ⟨B.b,oo,none⟩,cap,by rw[hlen];exact he,?_⟩
   by_cases h0:(r.rows.drop off).take len=[]
   ·exact .inl h0
   ·have zG:r.sz=sz:=by
     cases hq:(r.rows.drop off).take len with
     |nil=>exact(h0 hq).elim
     |cons c q=>
      have hm:c∈(r.rows.drop off).take len:=by rw[hq];simp
      rw[<-hl c hm,R.len c (List.mem_of_mem_drop (List.mem_of_mem_take hm))]
    have hlp:0<len:=by rw[<-hlen];exact List.length_pos_iff.2 h0
    have Aw:oo=off*B.sz:=by rcases h2 with h2|h2<;>omega
    obtain⟨news,q1,q2,q3,q4⟩:=fin B.b oo h0 (fun i2 j cs x dn hx=>by
     rw[List.getElem?_take]at dn
     split at dn
     ·rw[List.getElem?_drop]at dn
      obtain⟨v,hv,ll⟩:=R.at_ _ _ _ _ dn hx
      refine⟨v,?_,ll⟩
      rw[Aw,R.sz,<-zG]
      rw[Nat.add_mul]at hv
      rw[<-Nat.add_assoc]
      exact hv
     ·simp at dn)
    exact .inr ⟨B.b,oo,news,rfl,q1,q2,q3,q4⟩
  ·simp at hy
 ·simp at hy
theorem nR {t ty e:TypeId} {i:TypeInfo} (ht:P.underlying t=some (.slice e)) (hi:P.info? e=some i) (A:Option Addr) (n c:Nat) (hn:n<=c) (B:Option Addr) (d:Nat):
  (Builtin.append_ #[t,t] ty #[.slice A n c,.slice B 0 d]).run P w=.ok (.slice A n c) w:=by
 have hf:(Builtin.firstCells i.size 0 (.slice B 0 d)).run P w=.ok #[] w:=by
  cases B<;>simp[Builtin.firstCells,loadCells,loadCellsFrom]
 cases A with
 |none=>simp[Builtin.append_,run_underlying ht,sizeOf,typeInfo,hi,Builtin.lenOf,hn,hf]
 |some A=>simp[Builtin.append_,run_underlying ht,sizeOf,typeInfo,hi,Builtin.lenOf,hn,hf,storeCells]
theorem vO {t ty e T:TypeId} {i:TypeInfo} (ht:P.underlying t=some (.slice e)) (hi:P.info? e=some i) (b qy Cq:Nat) (cur:Array Value) (hg:w.heap[b]? =some (.cells cur T (0,0)))
  (x:Addr) (m c:Nat) (news:List Value) (hl:news.length=m*i.size) (O0:∀j u,news[j]? =some u->w.cell? (x.add j)=some u) (h1:∀u∈news,u.oneCell'=true)
  (fA:qy+m<=Cq) (By:qy*i.size+news.length<=cur.size):
  (Builtin.append_ #[t,t] ty #[.slice (some ⟨b,0,none⟩) qy Cq,.slice (some x) m c]).run P w=
   .ok (.slice (some ⟨b,0,none⟩) (qy+m) Cq) (w.setRow b (cur.toList.take (qy*i.size)++news++cur.toList.drop (qy*i.size+news.length)).toArray):=by
 have hf:=run_firstCells_some (P:=P) w i.size m x m c news hl O0
 have eB:=run_storeCells_at P b (qy*i.size) T news 0 cur w hg (by simpa using By) h1
 simp only[Nat.add_zero]at eB
 simp[Builtin.append_,run_underlying ht,sizeOf,typeInfo,hi,Builtin.lenOf,fA,hf,jP,eB]
theorem zx (w:World) (Fb z9:Nat) (e:TypeId) (h:Fb<=dI):Fb<=grownCap w Fb z9 e/\grownCap w Fb z9 e<=maxLen:=by
 unfold dI at h
 simp only[grownCap,Question.cut,maxLen]
 have:=Nat.mod_lt (w.tape w.drawn (.appendCap Fb z9 e)) (show 0<2 ^ 63-Fb by omega)
 omega
theorem fC {x y:Operand} {t:TypeId} {u:Value} (ho:o.op=.call {callee:=.builtin .append,args:= #[x,y],argTypes:= #[t,t]}) (h:(Builtin.append_ #[t,t] o.type #[a.eval x,a.eval y]).run P w=.ok u w'):(execOp a.eval o).run P w=.ok (.value u) w':=by
 simp only[execOp,ho,resolve,Sem.run_bind,Sem.run_pure,Result.andThen_ok,invoke,builtin]
 simp only[List.map_toArray,List.map_cons,List.map_nil]
 rw[h];rfl
theorem Ah {T:TypeId} (S:fW P hs D ι g w) (cells:Array Value) (hn:ι id=none) (B:rQ):Step hs D ι w D (kI ι id B) (w.drew.alloc (.cells cells T)):=
 Step.stay S (fun k hk=>by show(w.heap.push _)[k]? = _;rw[Array.getElem?_push,if_neg ab]) (by show _<=(w.heap.push _).size;simp) rfl rfl rfl (fun _ h=>h) (fun _ h=>.inl h) (fH hn)
theorem Gr {x y:Operand} {x' y':O} {t e:TypeId} {m:Nat} {z:List K} {i:TypeInfo} {ys:List (List AV)} {g':Rows} (S:fW P hs D ι g w) (E:bI P w D ι env a) (hn:ι id=none) (ho:o.op=.call {callee:=.builtin .append,args:= #[x,y],argTypes:= #[t,t]})
  (ht:P.underlying t=some (.slice e)) (eY:dK P e=some (m+1)) (hz:jj P e=some z) (hi:P.info? e=some i) (hby:i.bytes<=32768) (hx:cO P x=some x') (hy:cO P y=some y') (Dm:bt g (cE env y')=some ys)
  (hv:bc g id (m+1) (cE env x') ys=some (v,g')):AH P hs a o w D ι id v g':=by
 have rx:=cN E hx
 have ry:=cN E hy
 obtain⟨it,zv,pG,tV,NW,hm,Dn⟩:=jx hz
 rw[hi]at pG;injection pG with pG;subst pG
 have jg:i.size=m+1:=by simpa[dK,hi]using eY
 have fits:∀n,n<=dI->n*i.bytes<=140737488355328:=fun n h=>by
  unfold dI at h
  have:=Nat.mul_le_mul h hby
  omega
 have e63:∀n,n<=dI->(n:Int)<=9223372036854775807:=fun n h=>by unfold dI at h;omega
 have same:∀(w1:World) (cells:Array Value),w1=w.drew.alloc (.cells cells e)->w1.heap=w.heap.push (.cells cells e (0,0)):=fun w1 cells h=>by subst h;rfl
 have N9:∀l:List (List AV),(l.all fun c=>c.length==m+1&&c.all AV.cell)=true->(∀c∈l,c.length=m+1)/\∀c∈l,∀b∈c,b.cell=true:=fun l h=>by
  rw[List.all_eq_true]at h
  refine⟨fun c hc=>?_,fun c hc b hb=>?_⟩
  ·have:=h c hc;simp at this;exact this.1
  ·have:=h c hc;simp at this;exact this.2 b hb
 unfold bc at hv
 split at hv
 ·rename_i hb
  rw[hb]at rx
  have ex:=jL rx
  split at hv
  ·simp at hv
   obtain⟨rfl,rfl⟩:=hv
   obtain⟨A,c,ey,_⟩:=qt (sz:=m+1) S ry Dm (fun c h=>by cases h) (fun c h=>by cases h)
   refine⟨_,w,ι,.inl (fC ho (by rw[ex,ey];exact nR ht hi none 0 0 (Nat.le_refl _) A c)),Step.refl _ _ _ _,S,.eK _ _ .br,fun _ _=>rfl⟩
  ·rename_i y0 yr
   split at hv
   ·rename_i hc
    simp only[Option.some.injEq,Prod.mk.injEq]at hv
    obtain⟨rfl,rfl⟩:=hv
    obtain⟨hl,hf⟩:=N9 _ hc.2
    obtain⟨A,c,ey,h2⟩:=qt (sz:=m+1) S ry Dm hl hf
    rcases h2 with h2|⟨b,oo,news,rfl,q1,q2,q3,q4⟩
    ·cases h2
    have gS:=run_append_nil (P:=P) w t o.type e i zv ht hi tV ⟨b,oo,none⟩ (y0::yr).length c news (by rw[jg];exact q1) (fun j v hj=>by rw[jP];exact q2 j v hj) (by simp) (e63 _ hc.1) (by have:=fits _ hc.1;omega)
    obtain⟨g1,g2⟩:=zx w (y0::yr).length 0 e hc.1
    have dn:(news.toArray++Builtin.zeroCells zv.cells (grownCap w (y0::yr).length 0 e-(y0::yr).length)).size=grownCap w (y0::yr).length 0 e*(m+1):=by
     rw[Array.size_append,size_zeroCells,NW,jg]
     simp only[List.size_toArray,q1]
     rw[<-Nat.add_mul];congr 1;omega
    have S1:=S.alloc (w':=w.drew.alloc (.cells (news.toArray++Builtin.zeroCells zv.cells (grownCap w (y0::yr).length 0 e-(y0::yr).length)) e)) (r:=⟨true,m+1,y0::yr⟩) rfl hn rfl (by rw[dn];exact Nat.mul_le_mul_right _ g1) hl hf
     (fun k j cs b2 hk hj=>by
      obtain⟨u,hu,vG⟩:=q3.2 _ _ (flat_get hl hk hj)
      refine⟨u,?_,vG⟩
      have dR:=(Array.getElem?_eq_some_iff.1 hu).1
      dsimp only
      rw[Array.getElem?_append_left dR];exact hu)
    have eB:=Ah (T:=e) S (news.toArray++Builtin.zeroCells zv.cells (grownCap w (y0::yr).length 0 e-(y0::yr).length)) hn ⟨w.heap.size,m+1,(news.toArray++Builtin.zeroCells zv.cells (grownCap w (y0::yr).length 0 e-(y0::yr).length)).size,none⟩
    refine⟨_,_,_,.inl (fC ho (by rw[ex,ey];exact gS)),eB,S1,?_,fun _ h=>fG h⟩
    refine .own _ _ _ _ _ _ (ea _ _ _) rfl g1 (.inr (by simp)) ?_ g2
    dsimp only;rw[dn];simp
   ·simp at hv
 ·rename_i i0 len hb
  rw[hb]at rx
  simp only[Option.bind_eq_some_iff]at hv
  obtain⟨r,hg,hv⟩:=hv
  split at hv
  ·rename_i hc
   obtain⟨c1,c2,c3,c4,c5⟩:=hc
   simp only[Option.some.injEq,Prod.mk.injEq]at hv
   obtain⟨rfl,rfl⟩:=hv
   obtain⟨hl,hf⟩:=N9 _ c5
   obtain⟨A,c,ey,h2⟩:=qt (sz:=m+1) S ry Dm hl hf
   obtain⟨oo,cap,B,ex,hB,h1,Aw,h3,h4,hk⟩:=ja rx
   obtain⟨B',dz,R,jS,k7⟩:=S.row _ _ hg
   rw[hB]at dz;injection dz with dz;subst dz
   replace R:=R.row hk
   have C5:B.sz=m+1:=R.sz.trans c2
   have xT:∀cs∈r.rows++ys,cs.length=m+1:=fun cs dn=>by
    rcases List.mem_append.1 dn with h|h
    ·rw[<-c2];exact R.len cs h
    ·exact hl cs h
   have KD:∀cs∈r.rows++ys,∀b∈cs,b.cell=true:=fun cs dn=>by
    rcases List.mem_append.1 dn with h|h
    ·exact R.flat cs h
    ·exact hf cs h
   rcases h2 with rfl|⟨yb,yo,news,rfl,q1,q2,q3,q4⟩
   ·have EC:=S.rename hg c1 hB hn
    refine⟨_,w,kI ι id B,.inl (fC ho (by rw[ex,ey];exact nR ht hi _ _ _ h1 A c)),⟨Below.refl _ _,fun _ _=>rfl,fun _ h=>h,fH hn,fun _ h=>.inl h⟩,?_,?_,fun _ h=>fG h⟩
    ·have:(⟨true,m+1,r.rows++[]⟩:Row)=r:=by cases r;simp_all
     rw[this];exact EC
    ·simp only[List.length_nil,Nat.add_zero]
     exact .own _ _ _ _ _ B (ea _ _ _) hk h1 Aw h3 h4
   ·obtain⟨cur,T,l8,hC,tP⟩:=R.cur
    by_cases fA:len+ys.length<=cap
    ·have KS:ys≠[]->oo=0:=fun h=>by
      rcases Aw with Aw|Aw
      ·have:=List.length_pos_iff.2 h;omega
      ·simpa using Aw
     by_cases hy0:ys=[]
     ·subst hy0
      have EC:=S.rename hg c1 hB hn
      refine⟨_,w,kI ι id B,.inl (fC ho (by rw[ex,ey];exact nR ht hi _ _ _ h1 _ c)),⟨Below.refl _ _,fun _ _=>rfl,fun _ h=>h,fH hn,fun _ h=>.inl h⟩,?_,?_,fun _ h=>fG h⟩
      ·have:(⟨true,m+1,r.rows++[]⟩:Row)=r:=by cases r;simp_all
       rw[this];exact EC
      ·simp only[List.length_nil,Nat.add_zero]
       exact .own _ _ _ _ _ B (ea _ _ _) hk h1 Aw h3 h4
     have ho0:=KS hy0
     subst ho0
     have By:len*i.size+news.length<=cur.size:=by
      rw[jg,q1,hC,<-Nat.add_mul]
      refine Nat.le_trans ?_ h3
      rw[C5,Nat.zero_add]
      exact Nat.mul_le_mul_right _ fA
     have gS:=vO (ty:=o.type) ht hi B.b len cap cur l8 ⟨yb,yo,none⟩ ys.length c news (by rw[jg];exact q1) (fun j v hj=>by rw[jP];exact q2 j v hj) q4 fA By
     have mW:cur.toList.length=cur.size:=Array.length_toList
     simp only[jg]at gS By
     obtain⟨P1,P2⟩:=S.put (r':=⟨true,m+1,r.rows++ys⟩) hg c1 hB l8 (cur':=(cur.toList.take (len*(m+1))++news++cur.toList.drop (len*(m+1)+news.length)).toArray) (by simp only[List.size_toArray,List.length_append,List.length_take,List.length_drop,mW];omega) rfl c2.symm
      (by dsimp only;rw[List.length_append,<-c3,<-C5];refine Nat.le_trans (Nat.mul_le_mul_right _ fA) (Nat.le_trans (by simp) h3)) xT KD (fun k j cs b2 hk hj=>by
       simp only[List.getElem?_toArray]
       have gG:j<m+1:=by rw[<-xT cs (List.mem_of_getElem? hk)];exact(List.getElem?_eq_some_iff.1 hj).1
       rw[c2]
       by_cases lS:k<r.rows.length
       ·rw[List.getElem?_append_left lS]at hk
        have h2:k*(m+1)+j<len*(m+1):=js ab gG
        rw[List.append_assoc,List.getElem?_append_left (by simp only[List.length_take,mW];omega),List.getElem?_take,if_pos h2]
        have:=tP k j cs b2 hk hj
        rw[c2]at this;simpa using this
       ·rw[List.getElem?_append_right ab]at hk
        have tR:=(List.getElem?_eq_some_iff.1 hk).1
        have jO:len*(m+1)<=k*(m+1):=Nat.mul_le_mul_right _ ab
        have pf:k*(m+1)+j-len*(m+1)=(k-r.rows.length)*(m+1)+j:=by
         rw[<-c3,Nat.sub_mul];omega
        obtain⟨u,hu,vG⟩:=q3.2 _ _ (flat_get hl hk hj)
        refine⟨u,?_,vG⟩
        have Dj:news[(k-r.rows.length)*(m+1)+j]? =some u:=by simpa using hu
        have dR:=(List.getElem?_eq_some_iff.1 Dj).1
        rw[List.append_assoc,List.getElem?_append_right (by simp only[List.length_take,mW];omega),List.getElem?_append_left (by simp only[List.length_take,mW];omega)]
        rw[<-Dj]
        congr 1
        simp only[List.length_take,mW]
        omega)
     have ew:bS (bZ (bS g i0 ⟨true,m+1,r.rows++ys⟩) i0) id ⟨true,m+1,r.rows++ys⟩=bS (bZ g i0) id ⟨true,m+1,r.rows++ys⟩:=by
      funext q;simp only[bS,bZ]
      by_cases h:q=id<;>by_cases h':q=i0<;>simp[h,h']
     have EC:=P1.rename (i:=i0) (id:=id) (r:=⟨true,m+1,r.rows++ys⟩) (by simp[bS]) rfl hB hn
     rw[ew]at EC
     refine⟨_,_,_,.inl (fC ho (by rw[ex,ey];exact gS)),P2.trans ⟨Below.refl _ _,fun _ _=>rfl,fun _ h=>h,fH hn,fun _ h=>.inl h⟩,EC,?_,fun _ h=>fG h⟩
     exact .own _ _ _ _ _ B (ea _ _ _) hk fA (.inr (by simp)) h3 h4
    ·
     have holds:∃sP:List Value,sP.length=len*(m+1)/\(∀j v,sP[j]? =some v->w.cell? ⟨B.b,oo+j,none⟩=some v)/\e7 P w D ι r.rows.flatten sP.toArray:=by
      obtain⟨A2,c2',e2,h2⟩:=qt (sz:=m+1) (u:=.slice (some ⟨B.b,oo,none⟩) len cap) S (.own i0 0 len oo cap B hB hk h1 Aw h3 h4) (ys:=r.rows) (by simp[bt,hg,c3]) (fun cs h=>by rw[<-c2];exact R.len cs h) R.flat
      rcases h2 with h2|⟨b2,o2,sP,rfl,p1,p2,p3,_⟩
      ·refine⟨[],by simp[c3,h2],fun j v h=>by simp at h,by rw[h2];exact⟨rfl,fun j a h=>by simp at h⟩⟩
      ·injection e2 with e2 _ _
       injection e2 with e2
       injection e2 with Ij e22 _
       subst Ij;subst e22
       exact⟨sP,by rw[p1,c3],p2,p3⟩
     obtain⟨sP,p1,p2,p3⟩:=holds
     have gS:=run_append_grow (P:=P) w t o.type e i zv ht hi tV ⟨B.b,oo,none⟩ len cap sP (by rw[jg];exact p1) (fun j v hj=>by rw[jP];exact p2 j v hj) ⟨yb,yo,none⟩ ys.length c news (by rw[jg];exact q1) (fun j v hj=>by rw[jP];exact q2 j v hj) ab (e63 _ c4) (growslice_fits ab (fits _ c4))
     obtain⟨g1,g2⟩:=zx w (len+ys.length) cap e c4
     have dn:(sP.toArray++news.toArray++Builtin.zeroCells zv.cells (grownCap w (len+ys.length) cap e-(len+ys.length))).size=grownCap w (len+ys.length) cap e*(m+1):=by
      rw[Array.size_append,Array.size_append,size_zeroCells,NW,jg]
      simp only[List.size_toArray,q1,p1]
      rw[<-Nat.add_mul,<-Nat.add_mul];congr 1;omega
     have S1:=(S.kill i0).alloc (id:=id) (w':=w.drew.alloc (.cells (sP.toArray++news.toArray++Builtin.zeroCells zv.cells (grownCap w (len+ys.length) cap e-(len+ys.length))) e)) (r:=⟨true,m+1,r.rows++ys⟩) rfl hn rfl (by dsimp only;rw[dn,List.length_append,<-c3];exact Nat.mul_le_mul_right _ g1) xT KD
      (fun k j cs b2 hk hj=>by
       have Jl:=flat_get xT hk hj
       rw[List.flatten_append]at Jl
       have hol:sP.length=r.rows.flatten.length:=by have:=p3.1;simpa using this
       dsimp only
       by_cases dR:k*(m+1)+j<r.rows.flatten.length
       ·rw[List.getElem?_append_left dR]at Jl
        obtain⟨u,hu,vG⟩:=p3.2 _ _ Jl
        refine⟨u,?_,vG⟩
        rw[Array.getElem?_append_left (by simp;omega),Array.getElem?_append_left (by simp;omega)];exact hu
       ·rw[List.getElem?_append_right ab]at Jl
        obtain⟨u,hu,vG⟩:=q3.2 _ _ Jl
        refine⟨u,?_,vG⟩
        have zD:=(Array.getElem?_eq_some_iff.1 hu).1
        simp only[List.size_toArray]at zD
        rw[Array.getElem?_append_left (by simp;omega),Array.getElem?_append_right (by simp;omega)]
        simp only[List.size_toArray,hol];exact hu)
     have eB:=Ah (T:=e) S (sP.toArray++news.toArray++Builtin.zeroCells zv.cells (grownCap w (len+ys.length) cap e-(len+ys.length))) hn ⟨w.heap.size,m+1,(sP.toArray++news.toArray++Builtin.zeroCells zv.cells (grownCap w (len+ys.length) cap e-(len+ys.length))).size,none⟩
     refine⟨_,_,_,.inl (fC ho (by rw[ex,ey];exact gS)),eB,S1,?_,fun _ h=>fG h⟩
     refine .own _ _ _ _ _ _ (ea _ _ _) rfl g1 (.inr (by simp)) ?_ g2
     dsimp only;rw[dn];simp
  ·simp at hv
 ·simp at hv
theorem kC {x:Operand} {t:TypeId} {u:Value} (ho:o.op=.call {callee:=.builtin .clear,args:= #[x],argTypes:= #[t]}) (h:(Builtin.clear_ #[t] o.type #[a.eval x]).run P w=.ok u w'):(execOp a.eval o).run P w=.ok (.value u) w':=by
 simp only[execOp,ho,resolve,Sem.run_bind,Sem.run_pure,Result.andThen_ok,invoke,builtin]
 simp only[List.map_toArray,List.map_cons,List.map_nil]
 rw[h];rfl
theorem I3 {x:Operand} {x':O} {t e:TypeId} {m:Nat} {z:List K} {g':Rows} (S:fW P hs D ι g w) (E:bI P w D ι env a) (ho:o.op=.call {callee:=.builtin .clear,args:= #[x],argTypes:= #[t]})
  (ht:P.underlying t=some (.slice e)) (eY:dK P e=some (m+1)) (hz:jj P e=some z) (hx:cO P x=some x') (hv:bK g z (cE env x')=some g'):AH P hs a o w D ι id .undef g':=by
 have rx:=cN E hx
 obtain⟨it,zv,hi,tV,NW,hm,Dn⟩:=jx hz
 have jg:it.size=m+1:=by simpa[dK,hi]using eY
 unfold bK at hv
 split at hv
 ·rename_i hb
  rw[hb]at rx
  simp at hv;subst hv
  refine⟨undef,w,ι,.inl (kC ho (by rw[jL rx];simp only[Builtin.clear_,Sem.run_bind];simp[run_underlying ht,undef])),Step.refl _ _ _ _,S,cG.undef,fun _ _=>rfl⟩
 ·rename_i i off len hb
  rw[hb]at rx
  simp only[Option.bind_eq_some_iff]at hv
  obtain⟨r,hg,hv⟩:=hv
  split at hv
  ·rename_i hc
   obtain⟨c1,c2,c3⟩:=hc
   simp only[Option.some.injEq]at hv;subst hv
   obtain⟨oo,cap,B,ex,hB,h1,h2,h3,h4,hk⟩:=ja rx
   obtain⟨B',dz,R,jS,k7⟩:=S.row _ _ hg
   rw[hB]at dz;injection dz with dz;subst dz
   replace R:=R.row hk
   obtain⟨cur,T,l8,hC,tP⟩:=R.cur
   by_cases h0:len=0
   ·subst h0
    have e1:({r with rows:=r.rows.take off++List.replicate 0 (z.map K.av)++r.rows.drop (off+0)}:Row)=r:=by cases r;simp
    rw[e1]
    have e2:bS g i r=g:=by
     funext q;unfold bS;split
     ·rename_i h;rw[h,hg]
     ·rfl
    rw[e2]
    refine⟨undef,w,ι,.inl (kC ho (by rw[ex];simp only[Builtin.clear_,Sem.run_bind];simp[run_underlying ht,undef])),Step.refl _ _ _ _,S,cG.undef,fun _ _=>rfl⟩
   ·have BF:oo=off*B.sz:=by rcases h2 with h2|h2<;>omega
    have C5:B.sz=m+1:=by rw[R.sz,c2,Dn,jg]
    have wE:r.sz=m+1:=by rw[<-R.sz,C5]
    have Pg:zv.cells.size=m+1:=by rw[NW,jg]
    have wI:(Builtin.zeroCells zv.cells len).toList.length=len*(m+1):=by rw[Array.length_toList,size_zeroCells,Pg]
    have Pf:∀k,k<len*(m+1)->∃c,z[k % z.length]? =some c/\(Builtin.zeroCells zv.cells len).toList[k]? =some c.val:=fun k hk=>by
     obtain⟨c,oK,Et⟩:=nX (n:=len*zv.cells.size) hm (by rw[Dn,jg];omega) k (by rw[Pg];exact hk)
     exact⟨c,oK,by rw[Array.getElem?_toList];exact Et⟩
    have hbound:(off+len)*(m+1)<=r.rows.length*(m+1):=Nat.mul_le_mul_right _ c3
    have GO:=R.fits
    rw[wE]at GO
    have Ry:(off+len)*(m+1)=off*(m+1)+len*(m+1):=Nat.add_mul _ _ _
    have eB:=run_storeCells_at P B.b oo T (Builtin.zeroCells zv.cells len).toList 0 cur w l8 (by rw[wI,hC,BF,C5];omega) (by
     intro v hv
     obtain⟨k,hk,rfl⟩:=List.getElem_of_mem hv
     obtain⟨c,_,Et⟩:=Pf k (by rw[<-wI];exact hk)
     rw[List.getElem?_eq_getElem hk]at Et
     injection Et with Et
     rw[Et];cases c<;>rfl)
    simp only[Nat.add_zero]at eB
    have mW:cur.toList.length=cur.size:=Array.length_toList
    obtain⟨P1,P2⟩:=S.put (r':={r with rows:=r.rows.take off++List.replicate len (z.map K.av)++r.rows.drop (off+len)}) hg c1 hB l8 (cur':=(cur.toList.take oo++(Builtin.zeroCells zv.cells len).toList++cur.toList.drop (oo+(Builtin.zeroCells zv.cells len).toList.length)).toArray)
     (by simp only[List.size_toArray,List.length_append,List.length_take,List.length_drop,mW,wI];rw[BF,C5];omega) c1 rfl (by
      have:(r.rows.take off++List.replicate len (z.map K.av)++r.rows.drop (off+len)).length=r.rows.length:=by simp;omega
      dsimp only;rw[this];exact R.fits) (fun cs dn=>by
      rcases List.mem_append.1 dn with h|h
      ·rcases List.mem_append.1 h with h|h
       ·exact R.len cs (List.mem_of_mem_take h)
       ·rw[List.eq_of_mem_replicate h];simp[c2]
      ·exact R.len cs (List.mem_of_mem_drop h)) (fun cs dn b hb=>by
      rcases List.mem_append.1 dn with h|h
      ·rcases List.mem_append.1 h with h|h
       ·exact R.flat cs (List.mem_of_mem_take h) b hb
       ·rw[List.eq_of_mem_replicate h]at hb
        obtain⟨c,_,rfl⟩:=List.mem_map.1 hb;exact c.lY
      ·exact R.flat cs (List.mem_of_mem_drop h) b hb) (fun k j cs b hk hj=>by
      simp only[List.getElem?_toArray]
      rw[wE]
      rw[BF,C5,wI]
      by_cases p9:k<off
      ·rw[List.append_assoc,List.getElem?_append_left (by simp;omega),List.getElem?_take,if_pos p9]at hk
       have gG:j<m+1:=by rw[<-wE,<-R.len cs (List.mem_of_getElem? hk)];exact(List.getElem?_eq_some_iff.1 hj).1
       have h2:=js p9 gG
       rw[List.append_assoc,List.getElem?_append_left (by simp only[List.length_take,mW];omega),List.getElem?_take,if_pos h2]
       have:=tP k j cs b hk hj
       rw[wE]at this;simpa using this
      ·by_cases tR:k<off+len
       ·rw[List.append_assoc,List.getElem?_append_right (by simp;omega),List.getElem?_append_left (by simp;omega)]at hk
        have gx:=List.eq_of_mem_replicate (List.mem_of_getElem? hk)
        subst gx
        simp only[List.getElem?_map,Option.map_eq_some_iff]at hj
        obtain⟨q,hq,rfl⟩:=hj
        have gG:=(List.getElem?_eq_some_iff.1 hq).1
        rw[Dn,jg]at gG
        have jO:off*(m+1)<=k*(m+1):=Nat.mul_le_mul_right _ ab
        have pf:k*(m+1)+j-off*(m+1)=(k-off)*(m+1)+j:=by rw[Nat.sub_mul];omega
        have zD:(k-off)*(m+1)+j<len*(m+1):=js ab gG
        rw[List.append_assoc,List.getElem?_append_right (by simp only[List.length_take,mW];omega),List.getElem?_append_left (by simp only[List.length_take,mW,wI];omega)]
        obtain⟨c,oK,Et⟩:=Pf _ zD
        rw[Dn,jg,Nat.mul_comm (k-off),Nat.mul_add_mod,Nat.mod_eq_of_lt gG,hq]at oK
        injection oK with oK;subst oK
        refine⟨q.val,?_,ux q⟩
        rw[<-Et]
        congr 1
        simp only[List.length_take,mW];omega
       ·rw[List.getElem?_append_right (by simp;omega)]at hk
        simp only[List.length_append,List.length_take,List.length_replicate,List.getElem?_drop]at hk
        rw[show off+len+(k-(min off r.rows.length+len))=k by omega]at hk
        have lS:=(List.getElem?_eq_some_iff.1 hk).1
        have jO:(off+len)*(m+1)<=k*(m+1):=Nat.mul_le_mul_right _ ab
        rw[List.getElem?_append_right (by simp only[List.length_append,List.length_take,mW,wI];omega)]
        simp only[List.length_append,List.length_take,mW,wI,List.getElem?_drop]
        rw[show off*(m+1)+len*(m+1)+(k*(m+1)+j-(min (off*(m+1)) cur.size+len*(m+1)))=k*(m+1)+j by omega]
        have:=tP k j cs b hk hj
        rw[wE]at this;simpa using this)
    refine⟨undef,_,ι,.inl (kC ho ?_),P2,P1,cG.undef,fun _ _=>rfl⟩
    rw[ex]
    cases len with
    |zero=>exact(h0 rfl).elim
    |succ len=>
     simp only[Builtin.clear_,Sem.run_bind]
     simp[run_underlying ht,zeroValue,typeInfo,hi,tV,eB,undef]
  ·simp at hv
 ·simp at hv
theorem Fs {dT sT ty e:TypeId} {it:TypeInfo} (hu:P.underlying dT=some (.slice e)) (hi:P.info? e=some it) (A B:Option Addr) (qy Cq Ed LD:Nat) (h0:Nat.min qy Ed=0):
  (Builtin.copy_ #[dT,sT] ty #[.slice A Ed LD,.slice B qy Cq]).run P w=.ok (goInt 0) w:=by
 cases A<;>cases B<;>simp[Builtin.copy_,run_underlying hu,Builtin.lenOf,Builtin.firstCells,sizeOf,typeInfo,hi,h0,storeCells,loadCells,loadCellsFrom]
theorem Ft {dT sT ty e:TypeId} {it:TypeInfo} (hu:P.underlying dT=some (.slice e)) (hi:P.info? e=some it) (A B:Addr) (qy Cq Ed LD:Nat) (cs:List Value) (hn:cs.length=Nat.min qy Ed*it.size) (hl:(loadCells B cs.length).run P w=.ok cs.toArray w) (hs:(storeCells A cs).run P w=.ok () w'):
  (Builtin.copy_ #[dT,sT] ty #[.slice (some A) Ed LD,.slice (some B) qy Cq]).run P w=.ok (goInt (Nat.min qy Ed)) w':=by
 simp[Builtin.copy_,run_underlying hu,Builtin.lenOf,Builtin.firstCells,sizeOf,typeInfo,hi,<-hn,hl,hs]
theorem oP {x y:Operand} {t t2:TypeId} {u:Value} (ho:o.op=.call {callee:=.builtin .copy,args:= #[x,y],argTypes:= #[t,t2]}) (h:(Builtin.copy_ #[t,t2] o.type #[a.eval x,a.eval y]).run P w=.ok u w'):(execOp a.eval o).run P w=.ok (.value u) w':=by
 simp only[execOp,ho,resolve,Sem.run_bind,Sem.run_pure,Result.andThen_ok,invoke,builtin]
 simp only[List.map_toArray,List.map_cons,List.map_nil]
 rw[h];rfl
theorem LF {x y:Operand} {x' y':O} {t t2 e:TypeId} {m:Nat} {ys:List (List AV)} {v:AV} {g':Rows} (S:fW P hs D ι g w) (E:bI P w D ι env a) (ho:o.op=.call {callee:=.builtin .copy,args:= #[x,y],argTypes:= #[t,t2]})
  (ht:P.underlying t=some (.slice e)) (eY:dK P e=some (m+1)) (hx:cO P x=some x') (hy:cO P y=some y') (Dm:bt g (cE env y')=some ys) (hv:DH g (m+1) (cE env x') ys=some (v,g')):AH P hs a o w D ι id v g':=by
 have rx:=cN E hx
 have ry:=cN E hy
 obtain⟨it,hi,jg⟩:∃it,P.info? e=some it/\it.size=m+1:=by
  cases hq:P.info? e with
  |none=>simp[dK,hq]at eY
  |some it=>exact⟨it,rfl,by simpa[dK,hq]using eY⟩
 unfold DH at hv
 split at hv
 ·rename_i i off len hb
  rw[hb]at rx
  simp only[Option.bind_eq_some_iff]at hv
  obtain⟨r,hg,hv⟩:=hv
  split at hv
  ·rename_i hc
   obtain⟨c1,c2,c3,c4⟩:=hc
   simp only[Option.some.injEq,Prod.mk.injEq]at hv
   obtain⟨rfl,rfl⟩:=hv
   rw[List.all_eq_true]at c4
   have hl:∀c∈ys,c.length=m+1:=fun c hc=>by have:=c4 c hc;simp at this;exact this.1
   have hf:∀c∈ys,∀b∈c,b.cell=true:=fun c hc b hb=>by have:=c4 c hc;simp at this;exact this.2 b hb
   obtain⟨oo,cap,B,ex,hB,h1,h2,h3,h4,hk⟩:=ja rx
   obtain⟨B',dz,R,jS,k7⟩:=S.row _ _ hg
   rw[hB]at dz;injection dz with dz;subst dz
   replace R:=R.row hk
   obtain⟨cur,T,l8,hC,tP⟩:=R.cur
   obtain⟨A,sc,hu,hA⟩:=qt S ry Dm hl hf
   by_cases h0:min ys.length len=0
   ·rw[h0]
    have e1:({r with rows:=r.rows.take off++ys.take 0++r.rows.drop (off+0)}:Row)=r:=by cases r;simp
    rw[e1]
    have e2:bS g i r=g:=by
     funext q;unfold bS;split
     ·rename_i h;rw[h,hg]
     ·rfl
    rw[e2]
    refine⟨goInt 0,w,ι,.inl (oP ho (by rw[ex,hu];exact Fs ht hi _ _ _ _ _ _ h0)),Step.refl _ _ _ _,S,.eK _ _ (.int _ _),fun _ _=>rfl⟩
   ·rcases hA with rfl|⟨b,o2,news,rfl,RT,hsrc,hR,h1c⟩
    ·simp at h0
    have OV:Nat.min ys.length len=min ys.length len:=rfl
    have hky:min ys.length len<=ys.length:=Nat.min_le_left _ _
    have lS:min ys.length len<=len:=Nat.min_le_right _ _
    generalize RJ:min ys.length len=kk at *
    have KQ:len≠0:=ab
    have BF:oo=off*B.sz:=by rcases h2 with h2|h2<;>omega
    have C5:B.sz=m+1:=by rw[R.sz,c2]
    have wE:r.sz=m+1:=c2
    have Qp:kk*(m+1)<=ys.length*(m+1):=Nat.mul_le_mul_right _ hky
    have wI:(news.take (kk*(m+1))).length=kk*(m+1):=by rw[List.length_take,RT];omega
    have hbound:(off+kk)*(m+1)<=r.rows.length*(m+1):=Nat.mul_le_mul_right _ ab
    have GO:=R.fits
    rw[wE]at GO
    have Ry:(off+kk)*(m+1)=off*(m+1)+kk*(m+1):=Nat.add_mul _ _ _
    have eB:=run_storeCells_at P B.b oo T (news.take (kk*(m+1))) 0 cur w l8 (by rw[wI,hC,BF,C5];omega) (fun v hv=>h1c v (List.mem_of_mem_take hv))
    have Qt:=run_loadCells_list (P:=P) w ⟨b,o2,none⟩ (news.take (kk*(m+1))) (fun j v hj=>by
     rw[List.getElem?_take]at hj
     split at hj
     ·have:=hsrc j v hj
      cases j with
      |zero=>simpa[Addr.add]using this
      |succ j=>simpa[Addr.add]using this
     ·cases hj)
    simp only[Nat.add_zero]at eB
    have mW:cur.toList.length=cur.size:=Array.length_toList
    have htl:(ys.take kk).length=kk:=by rw[List.length_take];omega
    obtain⟨P1,P2⟩:=S.put (r':={r with rows:=r.rows.take off++ys.take kk++r.rows.drop (off+kk)}) hg c1 hB l8 (cur':=(cur.toList.take oo++news.take (kk*(m+1))++cur.toList.drop (oo+(news.take (kk*(m+1))).length)).toArray)
     (by simp only[List.size_toArray,List.length_append,List.length_drop,mW,wI];rw[List.length_take,mW,BF,C5];omega) c1 rfl (by
      have:(r.rows.take off++ys.take kk++r.rows.drop (off+kk)).length=r.rows.length:=by simp;omega
      dsimp only;rw[this];exact R.fits) (fun cs dn=>by
      rcases List.mem_append.1 dn with h|h
      ·rcases List.mem_append.1 h with h|h
       ·exact R.len cs (List.mem_of_mem_take h)
       ·rw[hl cs (List.mem_of_mem_take h)];exact c2.symm
      ·exact R.len cs (List.mem_of_mem_drop h)) (fun cs dn b hb=>by
      rcases List.mem_append.1 dn with h|h
      ·rcases List.mem_append.1 h with h|h
       ·exact R.flat cs (List.mem_of_mem_take h) b hb
       ·exact hf cs (List.mem_of_mem_take h) b hb
      ·exact R.flat cs (List.mem_of_mem_drop h) b hb) (fun k j cs b hk hj=>by
      simp only[List.getElem?_toArray]
      rw[wE]
      rw[BF,C5,wI]
      by_cases p9:k<off
      ·rw[List.append_assoc,List.getElem?_append_left (by simp;omega),List.getElem?_take,if_pos p9]at hk
       have gG:j<m+1:=by rw[<-wE,<-R.len cs (List.mem_of_getElem? hk)];exact(List.getElem?_eq_some_iff.1 hj).1
       have h2:=js p9 gG
       rw[List.append_assoc,List.getElem?_append_left (by simp only[List.length_take,mW];omega),List.getElem?_take,if_pos h2]
       have:=tP k j cs b hk hj
       rw[wE]at this;simpa using this
      ·by_cases tR:k<off+kk
       ·rw[List.append_assoc,List.getElem?_append_right (by simp;omega),List.getElem?_append_left (by simp;omega)]at hk
        simp only[List.length_take]at hk
        rw[show k-min off r.rows.length=k-off by omega,List.getElem?_take,if_pos ab]at hk
        have gG:j<m+1:=by rw[<-hl cs (List.mem_of_getElem? hk)];exact(List.getElem?_eq_some_iff.1 hj).1
        have jO:off*(m+1)<=k*(m+1):=Nat.mul_le_mul_right _ ab
        have pf:k*(m+1)+j-off*(m+1)=(k-off)*(m+1)+j:=by rw[Nat.sub_mul];omega
        have zD:(k-off)*(m+1)+j<kk*(m+1):=js ab gG
        rw[List.append_assoc,List.getElem?_append_right (by simp only[List.length_take,mW];omega),List.getElem?_append_left (by rw[wI];simp only[List.length_take,mW];omega)]
        obtain⟨u,KY,Dk⟩:=hR.2 ((k-off)*(m+1)+j) b (flat_get hl hk hj)
        refine⟨u,?_,Dk⟩
        rw[List.getElem?_take]
        simp only[List.length_take,mW]
        rw[show k*(m+1)+j-min (off*(m+1)) cur.size=(k-off)*(m+1)+j by omega,if_pos zD]
        simpa using KY
       ·rw[List.getElem?_append_right (by simp;omega)]at hk
        simp only[List.length_append,List.length_take,List.getElem?_drop]at hk
        rw[show off+kk+(k-(min off r.rows.length+min kk ys.length))=k by omega]at hk
        have lS:=(List.getElem?_eq_some_iff.1 hk).1
        have jO:(off+kk)*(m+1)<=k*(m+1):=Nat.mul_le_mul_right _ ab
        rw[List.getElem?_append_right (by rw[List.length_append,wI];simp only[List.length_take,mW];omega)]
        rw[List.getElem?_drop,List.length_append,wI]
        simp only[List.length_take,mW]
        rw[show off*(m+1)+kk*(m+1)+(k*(m+1)+j-(min (off*(m+1)) cur.size+kk*(m+1)))=k*(m+1)+j by omega]
        have:=tP k j cs b hk hj
        rw[wE]at this;simpa using this)
    refine⟨goInt kk,_,ι,.inl (oP ho ?_),P2,P1,.eK _ _ (.int _ _),fun _ _=>rfl⟩
    rw[ex,hu]
    have:=Ft (w:=w) (sT:=t2) (ty:=o.type) ht hi ⟨B.b,oo,none⟩ ⟨b,o2,none⟩ ys.length sc len cap _ (by rw[wI,OV,jg]) Qt eB
    rw[OV]at this
    exact this
  ·simp at hv
 ·simp at hv
end
end Go.Proofs.YtihgaadadaekmaaGreat.V

namespace Go.Proofs.YtihgaadadaekmaaGreat.V
open Go.RowKit
variable {P:Program} {w w':World} {D D' D2:Nat->Prop} {ι ι' ι2:Names}
section
variable {g:Rows} {hs:Nat}
theorem fR:∀{n:Nat} {l r:List AV},cq g n l=some r->r.length=l.length/\∀(j:Nat) (b:AV),r[j]? =some b->∃a,l[j]? =some a/\fz g n a=some b
 |n,[],r,h=>by
  rw[cq]at h;simp at h;subst h;simp
 |n,a::l,r,h=>by
  rw[cq]at h
  split at h
  ·rename_i b hb
   simp only[Option.map_eq_some_iff]at h
   obtain⟨r',hr,rfl⟩:=h
   obtain⟨h1,h2⟩:=fR hr
   refine⟨by simp[h1],fun j c hj=>?_⟩
   cases j with
   |zero=>simp at hj;subst hj;exact⟨a,rfl,hb⟩
   |succ j=>simp at hj ⊢;exact h2 j c hj
  ·simp at h
theorem tN:∀{n:Nat} {l r:List (List AV)},dM g n l=some r->r.length=l.length/\∀(j:Nat) (b:List AV),r[j]? =some b->∃a,l[j]? =some a/\cq g n a=some b
 |n,[],r,h=>by
  rw[dM]at h;simp at h;subst h;simp
 |n,a::l,r,h=>by
  rw[dM]at h
  split at h
  ·rename_i b hb
   simp only[Option.map_eq_some_iff]at h
   obtain⟨r',hr,rfl⟩:=h
   obtain⟨h1,h2⟩:=tN hr
   refine⟨by simp[h1],fun j c hj=>?_⟩
   cases j with
   |zero=>simp at hj;subst hj;exact⟨a,rfl,hb⟩
   |succ j=>simp at hj ⊢;exact h2 j c hj
  ·simp at h
theorem pY (hD:∀b,D b->D2 b) (DW:∀id row,g id=some row->row.w=true->∃B,ι id=some B/\ik P w D ι B row/\D2 B.b):∀(n:Nat) (a:AV) (u:Value) (r:AV),cG P w D ι a u->fz g n a=some r->cG P w D2 ι2 r u/\(a.cell=true->jE P w D2 r u/\r.cell=true):=by
 intro n
 induction n with
 |zero=>intro a u r _ h;rw[fz]at h;simp at h
 |succ n ih=>
  intro a u r hr h
  have both:∀{r:AV},jE P w D2 r u->r.cell=true->cG P w D2 ι2 r u/\(a.cell=true->jE P w D2 r u/\r.cell=true):=fun h1 h2=>⟨.eK _ _ h1,fun _=>⟨h1,h2⟩⟩
  cases a with
  |map id m=>rw[fz]at h;cases h
  |rf id=>rw[fz]at h;cases h
  |own id off len=>
   rw[fz]at h
   split at h
   ·rename_i row hg
    split at h
    ·rename_i hw
     split at h
     ·rename_i hle
      simp only[Option.map_eq_some_iff]at h
      obtain⟨rows,qb,rfl⟩:=h
      obtain⟨B,hB,R,LW⟩:=DW id row hg hw
      obtain⟨o,cap,B',rfl,dz,h1,h2,h3,h4,hk⟩:=ja hr
      rw[hB]at dz;injection dz with dz;subst dz
      replace R:=R.row hk
      obtain⟨l1,l2⟩:=tN qb
      have hlen:rows.length=len:=by rw[l1];simp;omega
      by_cases h0:rows=[]
      ·subst h0
       simp at hlen;subst hlen
       exact both (.AF _ _ h4) rfl
      ·have hlp:0<len:=by rw[<-hlen];exact List.length_pos_iff.2 h0
       have ho:o=off*B.sz:=by rcases h2 with h2|h2<;>omega
       have src:∀i cs,rows[i]? =some cs->∃c0,row.rows[off+i]? =some c0/\cq g n c0=some cs:=fun i cs hi=>by
        obtain⟨c0,jk,hf⟩:=l2 i cs hi
        rw[List.getElem?_take]at jk
        split at jk
        ·rw[List.getElem?_drop]at jk;exact⟨c0,jk,hf⟩
        ·simp at jk
       have cell:∀i j,i<len->j<row.sz->∃c0 a0 v,row.rows[off+i]? =some c0/\c0[j]? =some a0/\w.cell? ⟨B.b,o+(i*row.sz+j),none⟩=some v/\cG P w D ι a0 v:=fun i j hi hj=>by
        have pG:off+i<row.rows.length:=ab
        have e1:=List.getElem?_eq_getElem pG
        have KP:j<row.rows[off+i].length:=by rw[R.len _ (List.getElem_mem pG)];exact hj
        obtain⟨v,hv,ll⟩:=R.at_ _ _ _ _ e1 (List.getElem?_eq_getElem KP)
        refine⟨_,_,v,e1,List.getElem?_eq_getElem KP,?_,ll⟩
        rw[ho,R.sz,<-hv]
        congr 2
        rw[Nat.add_mul];omega
       refine both (.sl rows B.b o len cap row.sz (fun i j=>(w.cell? ⟨B.b,o+(i*row.sz+j),none⟩).getD undef) hlen h1 h4 LW (fun cs dn=>?_) (fun cs dn b hb=>?_) (fun i j hi hj=>?_) (fun i j cs b hi hj=>?_)) rfl
       ·obtain⟨i,hi,rfl⟩:=List.getElem_of_mem dn
        obtain⟨c0,jk,hf⟩:=src i _ (List.getElem?_eq_getElem hi)
        rw[(fR hf).1];exact R.len c0 (List.mem_of_getElem? jk)
       ·obtain⟨i,hi,rfl⟩:=List.getElem_of_mem dn
        obtain⟨c0,jk,hf⟩:=src i _ (List.getElem?_eq_getElem hi)
        obtain⟨j,hj,rfl⟩:=List.getElem_of_mem hb
        obtain⟨a0,kK,GN⟩:=(fR hf).2 j _ (List.getElem?_eq_getElem hj)
        obtain⟨v,_,ll⟩:=R.at_ _ _ _ _ jk kK
        exact((ih _ _ _ ll GN).2 (R.flat c0 (List.mem_of_getElem? jk) a0 (List.mem_of_getElem? kK))).2
       ·obtain⟨c0,a0,v,_,_,hv,_⟩:=cell i j hi hj
        simp only[hv,Option.getD_some]
       ·obtain⟨c0,jk,hf⟩:=src i cs hi
        obtain⟨a0,kK,GN⟩:=(fR hf).2 j b hj
        have oL:i<len:=by rw[<-hlen];exact(List.getElem?_eq_some_iff.1 hi).1
        have gG:j<row.sz:=by rw[<-R.len c0 (List.mem_of_getElem? jk)];exact(List.getElem?_eq_some_iff.1 kK).1
        obtain⟨c1,a1,v,e1,e2,hv,ll⟩:=cell i j oL gG
        rw[jk]at e1;injection e1 with e1;subst e1
        rw[kK]at e2;injection e2 with e2;subst e2
        simp only[hv,Option.getD_some]
        exact((ih _ _ _ ll GN).2 (R.flat c0 (List.mem_of_getElem? jk) a0 (List.mem_of_getElem? kK))).1
     ·simp at h
    ·simp at h
   ·simp at h
  |ptr id i off=>
   rw[fz]at h
   split at h
   ·rename_i row hg
    split at h
    ·rename_i hw
     split at h
     ·rename_i c0 jk
      simp only[Option.map_eq_some_iff]at h
      obtain⟨cs,dn,rfl⟩:=h
      obtain⟨B,hB,R,LW⟩:=DW id row hg hw
      obtain⟨B',rfl,dz,hk⟩:=jb hr
      rw[hB]at dz;injection dz with dz;subst dz
      replace R:=R.row hk
      obtain⟨l1,l2⟩:=fR dn
      have at_:∀j b,cs[j]? =some b->∃a0 v,w.cell? ⟨B.b,i*B.sz+off+j,none⟩=some v/\cG P w D ι a0 v/\a0.cell=true/\fz g n a0=some b:=fun j b hj=>by
       obtain⟨a0,kK,hf⟩:=l2 j b hj
       rw[List.getElem?_drop]at kK
       obtain⟨v,hv,ll⟩:=R.at_ _ _ _ _ jk kK
       refine⟨a0,v,?_,ll,R.flat c0 (List.mem_of_getElem? jk) a0 (List.mem_of_getElem? kK),hf⟩
       rw[R.sz,Nat.add_assoc];exact hv
      refine both (.de cs B.b _ (fun j=>(w.cell? ⟨B.b,i*B.sz+off+j,none⟩).getD undef) LW (fun b hb=>?_) (fun j hj=>?_) (fun j b hj=>?_)) rfl
      ·obtain⟨j,hj,rfl⟩:=List.getElem_of_mem hb
       obtain⟨a0,v,_,ll,hc,hf⟩:=at_ j _ (List.getElem?_eq_getElem hj)
       exact((ih _ _ _ ll hf).2 hc).2
      ·obtain⟨a0,v,hv,_⟩:=at_ j _ (List.getElem?_eq_getElem hj)
       simp only[hv,Option.getD_some]
      ·obtain⟨a0,v,hv,ll,hc,hf⟩:=at_ j b hj
       simp only[hv,Option.getD_some]
       exact((ih _ _ _ ll hf).2 hc).1
     ·simp at h
    ·simp at h
   ·simp at h
  |agg cs=>
   rw[fz]at h
   simp only[Option.map_eq_some_iff]at h
   obtain⟨r',m7,rfl⟩:=h
   obtain⟨vs,f,rfl,h1,h2,h3,h4⟩:=iv hr
   obtain⟨l1,l2⟩:=fR m7
   have hI:jE P w D2 (.agg r') (.agg vs):=.agg r' vs f (by rw[h1,l1]) (fun b hb=>by
    obtain⟨j,hj,rfl⟩:=List.getElem_of_mem hb
    obtain⟨a0,kK,hf⟩:=l2 j _ (List.getElem?_eq_getElem hj)
    exact((ih _ _ _ (h4 j a0 kK) hf).2 (h2 a0 (List.mem_of_getElem? kK))).2) (fun j hj=>h3 j (by rw[<-l1];exact hj)) (fun j b hj=>by
    obtain⟨a0,kK,hf⟩:=l2 j b hj
    exact((ih _ _ _ (h4 j a0 kK) hf).2 (h2 a0 (List.mem_of_getElem? kK))).1)
   exact⟨.eK _ _ hI,fun hc=>by simp[AV.cell]at hc⟩
  |gE cs=>
   rw[fz]at h
   simp only[Option.map_eq_some_iff]at h
   obtain⟨r',m7,rfl⟩:=h
   obtain⟨vs,f,rfl,h1,h3,h4⟩:=tb hr
   obtain⟨l1,l2⟩:=fR m7
   exact⟨.gE r' vs f (by rw[h1,l1]) (fun j hj=>h3 j (by rw[<-l1];exact hj)) (fun j b hj=>by
    obtain⟨a0,kK,hf⟩:=l2 j b hj
    exact(ih _ _ _ (h4 j a0 kK) hf).1),fun hc=>by simp[AV.cell]at hc⟩
  |fn f cD=>
   rw[fz]at h
   split at h
   ·rename_i dt
    simp only[Option.map_eq_some_iff]at h
    obtain⟨r',m7,rfl⟩:=h
    obtain⟨vs,q,rfl,h0,h1,h3,h4⟩:=Ck hr
    obtain⟨l1,l2⟩:=fR m7
    exact both (.fn f r' vs q h0 (by rw[h1,l1]) (fun j hj=>h3 j (by rw[<-l1];exact hj)) (fun j b hj=>by
     obtain⟨a0,kK,hf⟩:=l2 j b hj
     exact((ih _ _ _ (h4 j a0 kK) hf).2 (List.all_eq_true.1 dt a0 (List.mem_of_getElem? kK))).1)) rfl
   ·simp at h
  |int k m=>rw[fz]at h<;>(try simp at h)<;>(try subst h)<;>(try(rw[dj hr];exact⟨.eK _ _ (.int _ _),fun _=>⟨.int _ _,rfl⟩⟩))<;>(try(intros;simp_all))
  |bool b=>rw[fz]at h<;>(try simp at h)<;>(try subst h)<;>(try(rw[eS hr];exact⟨.eK _ _ (.bool _),fun _=>⟨.bool _,rfl⟩⟩))<;>(try(intros;simp_all))
  |str b=>rw[fz]at h<;>(try simp at h)<;>(try subst h)<;>(try(rw[eV hr];exact⟨.eK _ _ (.str _),fun _=>⟨.str _,rfl⟩⟩))<;>(try(intros;simp_all))
  |br=>rw[fz]at h<;>(try simp at h)<;>(try subst h)<;>(try(rw[jL hr];exact⟨.eK _ _ .br,fun _=>⟨.br,rfl⟩⟩))<;>(try(intros;simp_all))
  |iY=>rw[fz]at h<;>(try simp at h)<;>(try subst h)<;>(try(rw[uy hr];exact⟨.eK _ _ .iY,fun _=>⟨.iY,rfl⟩⟩))<;>(try(intros;simp_all))
  |jh=>rw[fz]at h<;>(try simp at h)<;>(try subst h)<;>(try(rw[Ad hr];exact⟨.eK _ _ .jh,fun _=>⟨.jh,rfl⟩⟩))<;>(try(intros;simp_all))
  |u4 f cD=>rw[fz]at h<;>(try simp at h)<;>(try(intros;simp_all))
  |gy=>rw[fz]at h<;>(try simp at h)<;>(try subst h)<;>(try(cases hr with|eK _ _ hr=>exact both (hr.frame (fun _ _=>rfl) hD) rfl))<;>(try(intros;simp_all))
  |sl rows=>rw[fz]at h<;>(try simp at h)<;>(try subst h)<;>(try(cases hr with|eK _ _ hr=>exact both (hr.frame (fun _ _=>rfl) hD) rfl))<;>(try(intros;simp_all))
  |de cs=>rw[fz]at h<;>(try simp at h)<;>(try subst h)<;>(try(cases hr with|eK _ _ hr=>exact both (hr.frame (fun _ _=>rfl) hD) rfl))<;>(try(intros;simp_all))
theorem iz:∀{n:Nat} {l r:List AV},dB g n l=some r->r.length=l.length/\∀(j:Nat) (b:AV),r[j]? =some b->∃a,l[j]? =some a/\fu g n a=some b
 |n,[],r,h=>by
  rw[dB]at h;simp at h;subst h;simp
 |n,a::l,r,h=>by
  rw[dB]at h
  split at h
  ·rename_i b hb
   simp only[Option.map_eq_some_iff]at h
   obtain⟨r',hr,rfl⟩:=h
   obtain⟨h1,h2⟩:=iz hr
   refine⟨by simp[h1],fun j c hj=>?_⟩
   cases j with
   |zero=>simp at hj;subst hj;exact⟨a,rfl,hb⟩
   |succ j=>simp at hj ⊢;exact h2 j c hj
  ·simp at h
theorem r6:∀{n:Nat} {l r:List (List AV)},fE g n l=some r->r.length=l.length/\∀(j:Nat) (b:List AV),r[j]? =some b->∃a,l[j]? =some a/\dB g n a=some b
 |n,[],r,h=>by
  rw[fE]at h;simp at h;subst h;simp
 |n,a::l,r,h=>by
  rw[fE]at h
  split at h
  ·rename_i b hb
   simp only[Option.map_eq_some_iff]at h
   obtain⟨r',hr,rfl⟩:=h
   obtain⟨h1,h2⟩:=r6 hr
   refine⟨by simp[h1],fun j c hj=>?_⟩
   cases j with
   |zero=>simp at hj;subst hj;exact⟨a,rfl,hb⟩
   |succ j=>simp at hj ⊢;exact h2 j c hj
  ·simp at h
theorem Eo (DW:∀id row,g id=some row->row.w=true->∃B,ι id=some B/\ik P w D ι B row/\D2 B.b):∀(n:Nat) (a:AV) (u:Value) (r:AV),cG P w D ι a u->fu g n a=some r->cG P w D2 ι2 r u/\(a.cell=true->jE P w D2 r u/\r.cell=true):=by
 intro n
 induction n with
 |zero=>intro a u r _ h;rw[fu]at h;simp at h
 |succ n ih=>
  intro a u r hr h
  have both:∀{r:AV},jE P w D2 r u->r.cell=true->cG P w D2 ι2 r u/\(a.cell=true->jE P w D2 r u/\r.cell=true):=fun h1 h2=>⟨.eK _ _ h1,fun _=>⟨h1,h2⟩⟩
  cases a with
  |map id m=>rw[fu]at h<;>simp_all
  |rf id=>rw[fu]at h<;>simp_all
  |own id off len=>
   rw[fu]at h
   split at h
   ·rename_i row hg
    split at h
    ·rename_i hw
     split at h
     ·rename_i hle
      simp only[Option.map_eq_some_iff]at h
      obtain⟨rows,qb,rfl⟩:=h
      obtain⟨B,hB,R,LW⟩:=DW id row hg hw
      obtain⟨o,cap,B',rfl,dz,h1,h2,h3,h4,hk⟩:=ja hr
      rw[hB]at dz;injection dz with dz;subst dz
      replace R:=R.row hk
      obtain⟨l1,l2⟩:=r6 qb
      have hlen:rows.length=len:=by rw[l1];simp;omega
      by_cases h0:rows=[]
      ·subst h0
       simp at hlen;subst hlen
       exact both (.AF _ _ h4) rfl
      ·have hlp:0<len:=by rw[<-hlen];exact List.length_pos_iff.2 h0
       have ho:o=off*B.sz:=by rcases h2 with h2|h2<;>omega
       have src:∀i cs,rows[i]? =some cs->∃c0,row.rows[off+i]? =some c0/\dB g n c0=some cs:=fun i cs hi=>by
        obtain⟨c0,jk,hf⟩:=l2 i cs hi
        rw[List.getElem?_take]at jk
        split at jk
        ·rw[List.getElem?_drop]at jk;exact⟨c0,jk,hf⟩
        ·simp at jk
       have cell:∀i j,i<len->j<row.sz->∃c0 a0 v,row.rows[off+i]? =some c0/\c0[j]? =some a0/\w.cell? ⟨B.b,o+(i*row.sz+j),none⟩=some v/\cG P w D ι a0 v:=fun i j hi hj=>by
        have pG:off+i<row.rows.length:=ab
        have e1:=List.getElem?_eq_getElem pG
        have KP:j<row.rows[off+i].length:=by rw[R.len _ (List.getElem_mem pG)];exact hj
        obtain⟨v,hv,ll⟩:=R.at_ _ _ _ _ e1 (List.getElem?_eq_getElem KP)
        refine⟨_,_,v,e1,List.getElem?_eq_getElem KP,?_,ll⟩
        rw[ho,R.sz,<-hv]
        congr 2
        rw[Nat.add_mul];omega
       refine both (.sl rows B.b o len cap row.sz (fun i j=>(w.cell? ⟨B.b,o+(i*row.sz+j),none⟩).getD undef) hlen h1 h4 LW (fun cs dn=>?_) (fun cs dn b hb=>?_) (fun i j hi hj=>?_) (fun i j cs b hi hj=>?_)) rfl
       ·obtain⟨i,hi,rfl⟩:=List.getElem_of_mem dn
        obtain⟨c0,jk,hf⟩:=src i _ (List.getElem?_eq_getElem hi)
        rw[(iz hf).1];exact R.len c0 (List.mem_of_getElem? jk)
       ·obtain⟨i,hi,rfl⟩:=List.getElem_of_mem dn
        obtain⟨c0,jk,hf⟩:=src i _ (List.getElem?_eq_getElem hi)
        obtain⟨j,hj,rfl⟩:=List.getElem_of_mem hb
        obtain⟨a0,kK,GN⟩:=(iz hf).2 j _ (List.getElem?_eq_getElem hj)
        obtain⟨v,_,ll⟩:=R.at_ _ _ _ _ jk kK
        exact((ih _ _ _ ll GN).2 (R.flat c0 (List.mem_of_getElem? jk) a0 (List.mem_of_getElem? kK))).2
       ·obtain⟨c0,a0,v,_,_,hv,_⟩:=cell i j hi hj
        simp only[hv,Option.getD_some]
       ·obtain⟨c0,jk,hf⟩:=src i cs hi
        obtain⟨a0,kK,GN⟩:=(iz hf).2 j b hj
        have oL:i<len:=by rw[<-hlen];exact(List.getElem?_eq_some_iff.1 hi).1
        have gG:j<row.sz:=by rw[<-R.len c0 (List.mem_of_getElem? jk)];exact(List.getElem?_eq_some_iff.1 kK).1
        obtain⟨c1,a1,v,e1,e2,hv,ll⟩:=cell i j oL gG
        rw[jk]at e1;injection e1 with e1;subst e1
        rw[kK]at e2;injection e2 with e2;subst e2
        simp only[hv,Option.getD_some]
        exact((ih _ _ _ ll GN).2 (R.flat c0 (List.mem_of_getElem? jk) a0 (List.mem_of_getElem? kK))).1
     ·simp at h
    ·simp at h
   ·simp at h
  |ptr id i off=>
   rw[fu]at h
   split at h
   ·rename_i row hg
    split at h
    ·rename_i hw
     split at h
     ·rename_i c0 jk
      simp only[Option.map_eq_some_iff]at h
      obtain⟨cs,dn,rfl⟩:=h
      obtain⟨B,hB,R,LW⟩:=DW id row hg hw
      obtain⟨B',rfl,dz,hk⟩:=jb hr
      rw[hB]at dz;injection dz with dz;subst dz
      replace R:=R.row hk
      obtain⟨l1,l2⟩:=iz dn
      have at_:∀j b,cs[j]? =some b->∃a0 v,w.cell? ⟨B.b,i*B.sz+off+j,none⟩=some v/\cG P w D ι a0 v/\a0.cell=true/\fu g n a0=some b:=fun j b hj=>by
       obtain⟨a0,kK,hf⟩:=l2 j b hj
       rw[List.getElem?_drop]at kK
       obtain⟨v,hv,ll⟩:=R.at_ _ _ _ _ jk kK
       refine⟨a0,v,?_,ll,R.flat c0 (List.mem_of_getElem? jk) a0 (List.mem_of_getElem? kK),hf⟩
       rw[R.sz,Nat.add_assoc];exact hv
      refine both (.de cs B.b _ (fun j=>(w.cell? ⟨B.b,i*B.sz+off+j,none⟩).getD undef) LW (fun b hb=>?_) (fun j hj=>?_) (fun j b hj=>?_)) rfl
      ·obtain⟨j,hj,rfl⟩:=List.getElem_of_mem hb
       obtain⟨a0,v,_,ll,hc,hf⟩:=at_ j _ (List.getElem?_eq_getElem hj)
       exact((ih _ _ _ ll hf).2 hc).2
      ·obtain⟨a0,v,hv,_⟩:=at_ j _ (List.getElem?_eq_getElem hj)
       simp only[hv,Option.getD_some]
      ·obtain⟨a0,v,hv,ll,hc,hf⟩:=at_ j b hj
       simp only[hv,Option.getD_some]
       exact((ih _ _ _ ll hf).2 hc).1
     ·simp at h
    ·simp at h
   ·simp at h
  |agg cs=>
   rw[fu]at h
   simp only[Option.map_eq_some_iff]at h
   obtain⟨r',m7,rfl⟩:=h
   obtain⟨vs,f,rfl,h1,h2,h3,h4⟩:=iv hr
   obtain⟨l1,l2⟩:=iz m7
   have hI:jE P w D2 (.agg r') (.agg vs):=.agg r' vs f (by rw[h1,l1]) (fun b hb=>by
    obtain⟨j,hj,rfl⟩:=List.getElem_of_mem hb
    obtain⟨a0,kK,hf⟩:=l2 j _ (List.getElem?_eq_getElem hj)
    exact((ih _ _ _ (h4 j a0 kK) hf).2 (h2 a0 (List.mem_of_getElem? kK))).2) (fun j hj=>h3 j (by rw[<-l1];exact hj)) (fun j b hj=>by
    obtain⟨a0,kK,hf⟩:=l2 j b hj
    exact((ih _ _ _ (h4 j a0 kK) hf).2 (h2 a0 (List.mem_of_getElem? kK))).1)
   exact⟨.eK _ _ hI,fun hc=>by simp[AV.cell]at hc⟩
  |gE cs=>
   rw[fu]at h
   simp only[Option.map_eq_some_iff]at h
   obtain⟨r',m7,rfl⟩:=h
   obtain⟨vs,f,rfl,h1,h3,h4⟩:=tb hr
   obtain⟨l1,l2⟩:=iz m7
   exact⟨.gE r' vs f (by rw[h1,l1]) (fun j hj=>h3 j (by rw[<-l1];exact hj)) (fun j b hj=>by
    obtain⟨a0,kK,hf⟩:=l2 j b hj
    exact(ih _ _ _ (h4 j a0 kK) hf).1),fun hc=>by simp[AV.cell]at hc⟩
  |fn f cD=>rw[fu]at h<;>(try simp at h)<;>(try(intros;simp_all))
  |int k m=>rw[fu]at h<;>(try simp at h)<;>(try subst h)<;>(try(rw[dj hr];exact⟨.eK _ _ (.int _ _),fun _=>⟨.int _ _,rfl⟩⟩))<;>(try(intros;simp_all))
  |bool b=>rw[fu]at h<;>(try simp at h)<;>(try subst h)<;>(try(rw[eS hr];exact⟨.eK _ _ (.bool _),fun _=>⟨.bool _,rfl⟩⟩))<;>(try(intros;simp_all))
  |str b=>rw[fu]at h<;>(try simp at h)<;>(try subst h)<;>(try(rw[eV hr];exact⟨.eK _ _ (.str _),fun _=>⟨.str _,rfl⟩⟩))<;>(try(intros;simp_all))
  |br=>rw[fu]at h<;>(try simp at h)<;>(try subst h)<;>(try(rw[jL hr];exact⟨.eK _ _ .br,fun _=>⟨.br,rfl⟩⟩))<;>(try(intros;simp_all))
  |iY=>rw[fu]at h<;>(try simp at h)<;>(try subst h)<;>(try(rw[uy hr];exact⟨.eK _ _ .iY,fun _=>⟨.iY,rfl⟩⟩))<;>(try(intros;simp_all))
  |jh=>rw[fu]at h<;>(try simp at h)<;>(try subst h)<;>(try(rw[Ad hr];exact⟨.eK _ _ .jh,fun _=>⟨.jh,rfl⟩⟩))<;>(try(intros;simp_all))
  |u4 f cD=>rw[fu]at h<;>(try simp at h)<;>(try(intros;simp_all))
  |gy=>rw[fu]at h<;>(try simp at h)<;>(try subst h)<;>(try(cases hr with|eK _ _ hr=>cases hr;exact both .gy rfl))<;>(try(intros;simp_all))
  |sl rows=>rw[fu]at h<;>(try simp at h)<;>(try(intros;simp_all))
  |de cs=>rw[fu]at h<;>(try simp at h)<;>(try(intros;simp_all))
end
end Go.Proofs.YtihgaadadaekmaaGreat.V

namespace Go.Proofs.YtihgaadadaekmaaGreat.V
open Go.RowKit
variable {P:Program} {w w':World} {D D':Nat->Prop} {ι ι':Names}
section
variable {g:Rows} {hs:Nat} {env:Env} {a:Act} {o:Oper} {id:Id} {v:AV}
theorem fW.FH (S:fW P hs D ι g w) {i:Id} {r r':Row} {B:rQ} {ob:Obj} (hid:g i=some r) (hw:r.w=true) (hB:ι i=some B)
  (hR:(∀a v,cG P w D ι a v->cG P {w with heap:=w.heap.setIfInBounds B.b ob} D ι a v)->(w.heap.setIfInBounds B.b ob)[B.b]? =some ob->ik P {w with heap:=w.heap.setIfInBounds B.b ob} D ι B r'):
  fW P hs D ι (bS g i r') {w with heap:=w.heap.setIfInBounds B.b ob}/\Step hs D ι w D ι {w with heap:=w.heap.setIfInBounds B.b ob}:=by
 obtain⟨B0,zz,R,jS,k7⟩:=S.row i r hid
 rw[hB]at zz;injection zz with zz;subst zz
 have other:∀b,b≠B.b->(w.heap.setIfInBounds B.b ob)[b]? =w.heap[b]? :=fun b hb=>by simp[Ne.symm hb]
 have hd:∀b,D b->(w.heap.setIfInBounds B.b ob)[b]? =w.heap[b]? :=fun b hb=>other b (by rintro rfl;exact k7 hw hb)
 have hr:∀a v,cG P w D ι a v->cG P {w with heap:=w.heap.setIfInBounds B.b ob} D ι a v:=fun a v h=>h.frame hd (fun _ h=>h) (fun _ _ h=>h)
 refine⟨⟨by simpa using S.lo,fun b hb=>by simpa using S.dead b hb,fun j q h=>?_,fun j j' q q' C C' h h' O3 hC Br he=>?_⟩,⟨⟨rfl,rfl,rfl,by simp,fun k hk=>other k (by have:=jS hw;omega)⟩,hd,fun _ h=>h,fun _ _ h=>h,fun _ h=>.inl h⟩⟩
 ·unfold bS at h
  split at h
  ·rename_i e
   subst e
   injection h with h;subst h
   exact⟨B,hB,hR hr (by simp[R.lt]),fun _=>jS hw,fun _=>k7 hw⟩
  ·rename_i e
   obtain⟨C,hC,RC,k1,k2⟩:=S.row j q h
   refine⟨C,hC,RC.frame (other C.b (fun KG=>e ?_)) hr,k1,k2⟩
   exact(S.inj i j r q B C hid h hw hB hC KG.symm).symm
 ·unfold bS at h h'
  have get:∀j p,(if j=i then some r' else g j)=some p->∃p0,g j=some p0/\(p.w=true->p0.w=true):=fun j p hp=>by
   split at hp
   ·rename_i e;subst e;injection hp with hp;subst hp;exact⟨r,hid,fun _=>hw⟩
   ·exact⟨p,hp,fun h=>h⟩
  obtain⟨p,hp,NN⟩:=get _ _ h
  obtain⟨p',IB,_⟩:=get _ _ h'
  exact S.inj j j' p p' C C' hp IB (NN O3) hC Br he
theorem CZ {s:TS} {x y:AV} {u v:Value} (he:fZ s x y=some true) (hx:cG P w D ι x u) (hy:cG P w D ι y v):u=v/\∀n,Instr.sameBits n u v=true:=by
 unfold fZ at he
 split at he
 ·split at he
  ·rename_i hk
   subst hk
   simp at he;subst he
   rw[dj hx,dj hy]
   exact⟨rfl,fun n=>by cases n<;>simp[Instr.sameBits]⟩
  ·cases he
 ·simp at he;subst he
  rw[eS hx,eS hy]
  exact⟨rfl,fun n=>by cases n<;>simp[Instr.sameBits]⟩
 ·simp at he;subst he
  rw[eV hx,eV hy]
  exact⟨rfl,fun n=>by cases n<;>simp[Instr.sameBits,Gb]⟩
 ·cases he
theorem zi {n:Nat}:∀{ts:List TS} {xs ys:List AV} {vs us:List Value},e8 ts xs ys=some true->vs.length=xs.length->us.length=ys.length->(∀(j:Nat) (a:AV),xs[j]? =some a->∃u,vs[j]? =some u/\cG P w D ι a u)->(∀(j:Nat) (a:AV),ys[j]? =some a->∃u,us[j]? =some u/\cG P w D ι a u)->
  us.length=vs.length/\(us.zip vs).all (fun p=>Instr.sameBits n p.1 p.2)=true
 |[],[],[],vs,us,_,h1,h2,_,_=>by
  cases vs<;>cases us<;>simp_all
 |[],x::xs,ys,vs,us,h,_,_,_,_=>by simp[e8]at h
 |[],[],y::ys,vs,us,h,_,_,_,_=>by simp[e8]at h
 |t::ts,[],ys,vs,us,h,_,_,_,_=>by simp[e8]at h
 |t::ts,x::xs,[],vs,us,h,_,_,_,_=>by simp[e8]at h
 |t::ts,x::xs,y::ys,[],us,h,h1,_,_,_=>by simp at h1
 |t::ts,x::xs,y::ys,v::vs,[],h,_,h2,_,_=>by simp at h2
 |t::ts,x::xs,y::ys,v::vs,u::us,h,h1,h2,hx,hy=>by
  unfold e8 at h
  split at h
  ·rename_i a b ha hb
   simp only[Option.some.injEq,Bool.and_eq_true]at h
   obtain⟨rfl,rfl⟩:=h
   obtain⟨v',mZ,rv⟩:=hx 0 x rfl
   obtain⟨u',Dj,ru⟩:=hy 0 y rfl
   simp at mZ Dj;subst mZ;subst Dj
   obtain⟨e1,e2⟩:=CZ ha rv ru
   obtain⟨q1,q2⟩:=zi (n:=n) hb (by simpa using h1) (by simpa using h2) (fun j a hj=>by simpa using hx (j+1) a (by simpa using hj)) (fun j a hj=>by simpa using hy (j+1) a (by simpa using hj))
   refine⟨by simp[q1],?_⟩
   simp only[List.zip_cons_cons,List.all_cons,q2,Bool.and_true]
   rw[<-e1]
   have:=e2 n
   rw[<-e1]at this
   exact this
  ·cases h
theorem z4 {m:MK} {key:List AV}:∀{rows:List (List AV)} {i j:Nat},gV m key rows i=some (some j)->∃cs,i<=j/\rows[j-i]? =some cs/\e8 m.ts key (cs.take m.ks)=some true
 |[],i,j,h=>by simp[gV]at h
 |cs::rows,i,j,h=>by
  unfold gV at h
  split at h
  ·rename_i hq
   simp at h;subst h
   exact⟨cs,Nat.le_refl _,by simp,hq⟩
  ·obtain⟨c,h1,h2,h3⟩:=z4 h
   exact⟨c,ab,by rw[show j-i=(j-(i+1))+1 by omega];simpa using h2,h3⟩
  ·cases h
theorem uj {m:MK} {k:AV} {rows:List (List AV)} {fi:Option Nat} (h:gN m k rows=some fi):k.isAgg=m.ka/\k.cells.length=m.ks/\(k.cells.all AV.cell=true)/\gV m k.cells rows 0=some fi:=by
 unfold gN at h
 split at h
 ·rename_i hc;exact⟨hc.1,hc.2.1,hc.2.2,h⟩
 ·cases h
theorem HB {m:MK} {k y:AV} (h1:k.isAgg=m.ka) (h2:k.cells.length=m.ks):part m.ka m.ks (k.cells++[y])=some k/\(k.cells++[y])[m.ks]? =some y:=by
 refine⟨?_,by rw[List.getElem?_append_right ab,h2,Nat.sub_self];rfl⟩
 cases hk:m.ka with
 |false=>
  rw[hk]at h1
  rw[tD h1];rfl
 |true=>
  rw[hk]at h1
  cases k<;>simp[AV.isAgg]at h1
  rename_i cs
  simp only[AV.cells]at h2 ⊢
  simp only[part,if_true]
  rw[if_pos (by simp;omega),<-h2,List.take_left']
  rfl
theorem stays {k:TypeId} {m:MK} (hK:CN P k m) {key kv:AV} {u z9:Value} {cs:List AV} (h1:key.isAgg=m.ka) (hr:cG P w D ι key u) (hp:part m.ka m.ks cs=some kv) (ho:cG P w D ι kv z9) (he:e8 m.ts key.cells (cs.take m.ks)=some true):(Instr.keyThatStays z9 u).run P w=.ok u w:=by
 have hs:Instr.sameBits 10000 z9 u=true:=by
  rcases hK with⟨s,rfl,hs⟩|⟨fs,ts,rfl,p4,vH,eB,dt⟩
  ·rw[tD h1]at he
   cases cs with
   |nil=>simp[part]at hp
   |cons c l=>
    simp[part]at hp;subst hp
    simp only[MK.ks,List.length_cons,List.length_nil,Nat.zero_add,List.take_succ_cons,List.take_zero,e8]at he
    cases hq:fZ s key c with
    |none=>rw[hq]at he;simp at he
    |some b=>
     rw[hq]at he;simp at he;subst he
     obtain⟨e1,e2⟩:=CZ hq hr ho
     rw[<-e1]
     have:=e2 10000
     rwa [<-e1]at this
  ·cases key<;>simp[AV.isAgg]at h1
   rename_i ks
   simp only[part,if_true]at hp
   split at hp
   ·simp only[Option.some.injEq]at hp;subst hp
    obtain⟨vs,rfl,n1,r1⟩:=qp hr
    obtain⟨us,rfl,n2,r2⟩:=qp ho
    obtain⟨q1,q2⟩:=zi (n:=9999) (vs:=vs.toList) (us:=us.toList) he (by simpa[AV.cells]using n1) (by simpa using n2) (fun j a hj=>by simpa using r1 j a hj) (fun j a hj=>by simpa using r2 j a hj)
    simp only[Instr.sameBits,Bool.and_eq_true,beq_iff_eq]
    exact⟨by simpa using q1,q2⟩
   ·cases hp
 simp[Instr.keyThatStays,hs]
theorem HM {es:Array MapEntry} {clock:Nat} (h:Lk es clock) (k v:Value):Lk (es.push ⟨k,v,clock⟩) (clock+1):=by
 refine⟨fun x hx=>?_,?_⟩
 ·simp only[Array.toList_push,List.mem_append,List.mem_singleton]at hx
  rcases hx with hx|rfl
  ·have:=h.1 x hx;omega
  ·exact Nat.lt_succ_self _
 ·simp only[Array.toList_push,List.map_append,List.map_cons,List.map_nil]
  refine List.nodup_append.2 ⟨h.2,by simp,fun a ha b hb=>?_⟩
  obtain⟨x,hx,rfl⟩:=List.mem_map.1 ha
  simp at hb;subst hb
  have:=h.1 x hx;omega
theorem Cx {es:Array MapEntry} {clock:Nat} (h:Lk es clock) (j:Nat) (k v:Value):Lk (es.modify j fun e=>{e with key:=k,val:=v}) clock:=by
 have e:(es.modify j fun e=>{e with key:=k,val:=v}).toList.map (·.born)=es.toList.map (·.born):=by
  refine List.ext_getElem? fun i=>?_
  simp only[List.getElem?_map,Array.getElem?_toList,Array.getElem?_modify]
  split
  ·cases es[i]? <;>rfl
  ·rfl
 refine⟨fun x hx=>?_,by rw[e];exact h.2⟩
 have hb:x.born∈(es.modify j fun e=>{e with key:=k,val:=v}).toList.map (·.born):=List.mem_map_of_mem hx
 rw[e]at hb
 obtain⟨y,hy,hyb⟩:=List.mem_map.1 hb
 rw[<-hyb];exact h.1 y hy
theorem Fv {es:Array MapEntry} {clock:Nat} (h:Lk es clock) {j:Nat} (hj:j<es.size):Lk (es.eraseIdxIfInBounds j) clock:=by
 have e:(es.eraseIdxIfInBounds j).toList=es.toList.eraseIdx j:=by
  unfold Array.eraseIdxIfInBounds
  rw[dif_pos hj,Array.toList_eraseIdx]
 refine⟨fun x hx=>h.1 x ((List.eraseIdx_sublist _ _).subset (by rwa [e]at hx)),?_⟩
 rw[e]
 exact((List.eraseIdx_sublist es.toList j).map (·.born)).nodup h.2
theorem zp {k y:AV} (h1:k.cells.all AV.cell=true) (h2:y.cell=true):∀a∈k.cells++[y],a.cell=true:=fun a ha=>by
 rcases List.mem_append.1 ha with ha|ha
 ·exact List.all_eq_true.1 h1 a ha
 ·rw[List.mem_singleton.1 ha];exact h2
theorem LH {t:TypeId} {x k y:Operand} {m:MK} {z:K} {x' k' y':O} {g':Rows} (S:fW P hs D ι g w) (E:bI P w D ι env a) (ho:o.op=.mapUpdate t x k y∨o.op=.insert t x k y) (hc:qZ P t=some (m,z)) (hx:cO P x=some x') (hk:cO P k=some k') (hy:cO P y=some y')
  (hv:bF (.set m) [cE env x',cE env k',cE env y'] g=some g'):AH P hs a o w D ι id .undef g':=by
 obtain⟨kt,e,i,zv,ht,hi,tV,Qr,hK⟩:=pQ hc
 simp only[bF,Option.bind_eq_some_iff]at hv
 obtain⟨p,hp,fi,KJ,hv⟩:=hv
 split at hv
 ·rename_i hcond
  obtain⟨hw,hyc,_⟩:=hcond
  simp only[Option.some.injEq]at hv;subst hv
  obtain⟨B,hu,hg,hB,s4,es,clock,hb,eY,hlen,hM⟩:=xZ S (cN E hx) hp
  have rk:=cN E hk
  have ry:=cN E hy
  obtain⟨Ip,res,hf,hF⟩:=tK (B:=B) hK rk eY hM KJ
  obtain⟨k1,k2,k3,k4⟩:=uj KJ
  obtain⟨B',dz,R,_⟩:=S.row p.1 p.2 hg
  rw[hB]at dz;injection dz with dz;subst dz
  obtain⟨pk1,pk2⟩:=HB (y:=cE env y') k1 k2
  have dp:(getObj B.b).run P w=.ok (.map es clock) w:=MapKept.run_getObj_map hb
  rcases hF with⟨rfl,rfl⟩|⟨j,en,rfl,he,rfl⟩
  ·have mY:=S.FH (ob:=.map (es.push ⟨a.eval k,a.eval y,clock⟩) (clock+1)) (r':={p.2 with rows:=dQ p.2.rows ((cE env k').cells++[cE env y']) none}) hg hw hB fun hr kh=>⟨R.sz,fun cs dn=>?_,fun s8=>(by rw[s4]at s8;cases s8),fun m' zE=>?_,fun c hc=>(by rw[s4]at hc;cases hc)⟩
   ·refine⟨undef,_,ι,.inr ⟨?_,rfl⟩,mY.2,mY.1,cG.undef,fun _ _=>rfl⟩
    rcases ho with ho|ho<;>
    ·simp only[execOp,ho,Instr.mapUpdate,hu,Sem.run_bind,run_underlying ht,Result.andThen_ok,dp,Ip,hf,MapKept.run_setObj_map _ hb,Sem.run_pure]
   ·rcases List.mem_append.1 dn with h|h
    ·exact R.flat cs h
    ·rw[List.mem_singleton.1 h];exact zp k3 hyc
   ·rw[s4]at zE;simp only[Option.some.injEq,BK.map.injEq]at zE;subst zE
    refine⟨(R.map m s4).1,_,_,kh,by simp[dQ,eY],⟨fun cs dn=>?_,HM hlen.2 _ _⟩,fun q cs hq=>?_⟩
    ·rcases List.mem_append.1 dn with h|h
     ·exact hlen.1 cs h
     ·rw[List.mem_singleton.1 h];simp[k2]
    ·rcases Nat.lt_or_ge q p.2.rows.length with dR|jO
     ·simp only[dQ]at hq
      rw[List.getElem?_append_left dR]at hq
      obtain⟨en,kv,vv,q1,q2,q3,q4,q5⟩:=hM q cs hq
      exact⟨en,kv,vv,by rw[Array.getElem?_push_lt ab];rw[Array.getElem?_eq_getElem ab]at q1;simpa using q1,q2,q3,hr _ _ q4,hr _ _ q5⟩
     ·simp only[dQ]at hq
      rw[List.getElem?_append_right jO]at hq
      have hq0:q=p.2.rows.length:=by
       have:=(List.getElem?_eq_some_iff.1 hq).1
       simp at this;omega
      subst hq0
      simp at hq;subst hq
      exact⟨⟨a.eval k,a.eval y,clock⟩,_,_,by rw[<-eY];simp,pk1,pk2,hr _ _ rk,hr _ _ ry⟩
  ·simp only[Nat.zero_add]at k4 KJ hf ⊢
   obtain⟨Nz,_,Bv,heq⟩:=z4 k4
   simp only[Nat.sub_zero]at Bv
   obtain⟨QY,kv,vv,q1,q2,_,q4,_⟩:=hM j Nz Bv
   have Iq:QY=en:=by
    have h1:es.toList[j]? =some QY:=by simpa using q1
    rw[he]at h1;injection h1 with h1;exact h1.symm
   subst Iq
   have eB:=stays (w:=w) hK k1 rk q2 q4 heq
   have mY:=S.FH (ob:=.map (es.modify j fun e=>{e with key:=a.eval k,val:=a.eval y}) clock) (r':={p.2 with rows:=dQ p.2.rows ((cE env k').cells++[cE env y']) (some j)}) hg hw hB fun hr kh=>⟨R.sz,fun cs dn=>?_,fun s8=>(by rw[s4]at s8;cases s8),fun m' zE=>?_,fun c hc=>(by rw[s4]at hc;cases hc)⟩
   ·refine⟨undef,_,ι,.inr ⟨?_,rfl⟩,mY.2,mY.1,cG.undef,fun _ _=>rfl⟩
    rcases ho with ho|ho<;>
    ·simp only[execOp,ho,Instr.mapUpdate,hu,Sem.run_bind,run_underlying ht,Result.andThen_ok,dp,Ip,hf,q1,Option.map_some,Option.getD_some,eB,MapKept.run_setObj_map _ hb,Sem.run_pure]
   ·rcases List.mem_or_eq_of_mem_set dn with h|h
    ·exact R.flat cs h
    ·rw[h];exact zp k3 hyc
   ·rw[s4]at zE;simp only[Option.some.injEq,BK.map.injEq]at zE;subst zE
    have gG:=(List.getElem?_eq_some_iff.1 Bv).1
    refine⟨(R.map m s4).1,_,_,kh,by simp[dQ,eY],⟨fun cs dn=>?_,Cx hlen.2 _ _ _⟩,fun q cs hq=>?_⟩
    ·rcases List.mem_or_eq_of_mem_set dn with h|h
     ·exact hlen.1 cs h
     ·rw[h];simp[k2]
    ·simp only[dQ,List.getElem?_set]at hq
     split at hq
     ·rename_i NH
      subst NH
      (try rw[if_pos gG]at hq)
      injection hq with hq;subst hq
      exact⟨{QY with key:=a.eval k,val:=a.eval y},_,_,by rw[Array.getElem?_modify];simp[q1],pk1,pk2,hr _ _ rk,hr _ _ ry⟩
     ·rename_i NH
      obtain⟨en,kv,vv,q1,q2,q3,q4,q5⟩:=hM q cs hq
      exact⟨en,kv,vv,by rw[Array.getElem?_modify];simp[NH,q1],q2,q3,hr _ _ q4,hr _ _ q5⟩
 ·cases hv
theorem LG {t t':TypeId} {x k:Operand} {m:MK} {z:K} {x' k':O} {g':Rows} (S:fW P hs D ι g w) (E:bI P w D ι env a) (ho:o.op=.call {callee:=.builtin .delete,args:= #[x,k],argTypes:= #[t,t']}) (hc:qZ P t=some (m,z)) (hx:cO P x=some x') (hk:cO P k=some k')
  (hv:bF (.del m) [cE env x',cE env k'] g=some g'):AH P hs a o w D ι id .undef g':=by
 obtain⟨kt,e,i,zv,ht,hi,tV,Qr,hK⟩:=pQ hc
 simp only[bF,Option.bind_eq_some_iff]at hv
 obtain⟨p,hp,fi,KJ,hv⟩:=hv
 split at hv
 ·rename_i hw
  simp only[Option.some.injEq]at hv;subst hv
  obtain⟨B,hu,hg,hB,s4,es,clock,hb,eY,hlen,hM⟩:=xZ S (cN E hx) hp
  have rk:=cN E hk
  obtain⟨Ip,res,hf,hF⟩:=tK (B:=B) hK rk eY hM KJ
  obtain⟨k1,k2,k3,k4⟩:=uj KJ
  obtain⟨B',dz,R,_⟩:=S.row p.1 p.2 hg
  rw[hB]at dz;injection dz with dz;subst dz
  have dp:(getObj B.b).run P w=.ok (.map es clock) w:=MapKept.run_getObj_map hb
  have go:∀ob,(Builtin.delete_ #[t,t'] o.type #[a.eval x,a.eval k]).run P w=.ok (.tuple #[]) {w with heap:=w.heap.setIfInBounds B.b ob}->(execOp a.eval o).run P w=.ok (.value undef) {w with heap:=w.heap.setIfInBounds B.b ob}:=fun ob h=>by
   simp only[execOp,ho,resolve,Sem.run_bind,Sem.run_pure,Result.andThen_ok,invoke,builtin,Array.map]
   simp[h,undef]
  rcases hF with⟨rfl,rfl⟩|⟨j,en,rfl,he,rfl⟩
  ·have mY:=S.FH (ob:=.map es clock) (r':={p.2 with rows:=dZ p.2.rows none}) hg hw hB fun hr kh=>⟨R.sz,R.flat,fun s8=>(by rw[s4]at s8;cases s8),fun m' zE=>?_,fun c hc=>(by rw[s4]at hc;cases hc)⟩
   ·refine⟨undef,_,ι,.inl (go _ ?_),mY.2,mY.1,cG.undef,fun _ _=>rfl⟩
    simp[Builtin.delete_,hu,run_underlying ht,dp,Ip,hf,MapKept.run_setObj_map _ hb]
   ·rw[s4]at zE;simp only[Option.some.injEq,BK.map.injEq]at zE;subst zE
    exact⟨(R.map m s4).1,_,_,kh,eY,hlen,fun q cs hq=>by
     obtain⟨en,kv,vv,q1,q2,q3,q4,q5⟩:=hM q cs hq
     exact⟨en,kv,vv,q1,q2,q3,hr _ _ q4,hr _ _ q5⟩⟩
  ·simp only[Nat.zero_add]at hf ⊢
   have gG:j<es.size:=by have:=(List.getElem?_eq_some_iff.1 he).1;simpa using this
   have mY:=S.FH (ob:=.map (es.eraseIdxIfInBounds j) clock) (r':={p.2 with rows:=dZ p.2.rows (some j)}) hg hw hB fun hr kh=>⟨R.sz,fun cs dn=>R.flat cs (List.mem_of_mem_eraseIdx dn),fun s8=>(by rw[s4]at s8;cases s8),fun m' zE=>?_,fun c hc=>(by rw[s4]at hc;cases hc)⟩
   ·refine⟨undef,_,ι,.inl (go _ ?_),mY.2,mY.1,cG.undef,fun _ _=>rfl⟩
    simp[Builtin.delete_,hu,run_underlying ht,dp,Ip,hf,MapKept.run_setObj_map _ hb]
   ·rw[s4]at zE;simp only[Option.some.injEq,BK.map.injEq]at zE;subst zE
    have he2:∀q,(es.eraseIdxIfInBounds j)[q]? =(es.toList.eraseIdx j)[q]? :=fun q=>by
     unfold Array.eraseIdxIfInBounds
     rw[dif_pos gG,<-Array.getElem?_toList,Array.toList_eraseIdx]
    refine⟨(R.map m s4).1,_,_,kh,by simp[dZ,Array.eraseIdxIfInBounds,gG,List.length_eraseIdx,<-eY],⟨fun cs dn=>hlen.1 cs (List.mem_of_mem_eraseIdx dn),Fv hlen.2 gG⟩,fun q cs hq=>?_⟩
    simp only[dZ,List.getElem?_eraseIdx]at hq
    split at hq
    ·rename_i dR
     obtain⟨en,kv,vv,q1,q2,q3,q4,q5⟩:=hM q cs hq
     exact⟨en,kv,vv,by rw[he2,List.getElem?_eraseIdx,if_pos dR];simpa using q1,q2,q3,hr _ _ q4,hr _ _ q5⟩
    ·rename_i dR
     obtain⟨en,kv,vv,q1,q2,q3,q4,q5⟩:=hM (q+1) cs hq
     exact⟨en,kv,vv,by rw[he2,List.getElem?_eraseIdx,if_neg dR];simpa using q1,q2,q3,hr _ _ q4,hr _ _ q5⟩
 ·cases hv
end
end Go.Proofs.YtihgaadadaekmaaGreat.V
