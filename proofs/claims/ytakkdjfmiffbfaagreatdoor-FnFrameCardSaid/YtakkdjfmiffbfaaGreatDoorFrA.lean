/- A small language in which the program's functions are read by value: its values, its operations, its code, and how the program's code is brought into it. -/
import Derived.WalkKit
import Derived.WalkSpells
import Derived.WalkLawsBesides
import Derived.Lib.Hide
import Derived.Great.BuildSlice
import Derived.Conc.LoneCalls
import Derived.MapKept
import Derived.WideKeyRuns
set_option linter.unusedVariables false
set_option linter.unusedSimpArgs false
set_option maxRecDepth 100000
set_option maxHeartbeats 16000000
namespace Go.Proofs.YtakkdjfmiffbfaaGreatDoor.V
open Go.RowKit
structure Id where
  site:Nat
  cW:Nat
  deriving DecidableEq,Repr
inductive TS where
  |tI|tB|tS
  deriving Repr,DecidableEq
structure MK where
  ka:Bool
  ts:List TS
  deriving Repr,DecidableEq
inductive AV where
  |int (k:IntKind) (n:Int)
  |bool (b:Bool)
  |str (s:ByteArray)
  |bB|gO|iU
  |sl (rows:List (List AV))
  |own (id:Id) (off len:Nat)
  |ptr (id:Id) (i off:Nat)
  |eT (cs:List AV)
  |agg (cs:List AV)
  |fK (vs:List AV)
  |fn (f:Nat) (dJ:List AV)
  |map (id:Id) (m:MK)
  |jd
  |iF
  |err (g t:Nat) (s:ByteArray)
  |tD (f:Nat) (first:List AV)
  |qF (id:Id)
  deriving Inhabited
def AV.undef:AV:=.fK []
def AV.cell:AV->Bool
  | .agg _| .fK _=>false
  |_=>true
def AV.cells:AV->List AV
  | .agg cs=>cs
  |v=>[v]
inductive K where
  |int (k:IntKind) (n:Int)
  |bool (b:Bool)
  |str (l:List UInt8)
  |bB|gO|iU|jd|iF
  deriving Repr,DecidableEq
def K.val:K->Value
  | .int k n=>.int k n
  | .bool b=>.bool b
  | .str l=>.string ⟨l.toArray⟩
  | .bB=>.slice none 0 0
  | .gO=>.pointer none
  | .iU=>.nilFunc
  | .jd=>.map none
  | .iF=>.nilIface
def K.av:K->AV
  | .int k n=>.int k n
  | .bool b=>.bool b
  | .str l=>.str ⟨l.toArray⟩
  | .bB=>.bB
  | .gO=>.gO
  | .iU=>.iU
  | .jd=>.jd
  | .iF=>.iF
def Ha:Value->Option K
  | .int k n=>some (.int k n)
  | .bool b=>some (.bool b)
  | .string s=>some (.str s.data.toList)
  | .slice none 0 0=>some .bB
  | .pointer none=>some .gO
  | .nilFunc=>some .iU
  | .map none=>some .jd
  | .nilIface=>some .iF
  |_=>none
inductive O where
  |t (n:Nat)
  |k (c:K)
  |ka (cs:List K)
  |f (n:Nat)
  deriving Repr,DecidableEq
inductive MQ where
  |new (m:MK)
  |look (m:MK) (ok:Bool) (zero:K)
  |len (m:MK)
  deriving Repr,DecidableEq
inductive MW where
  |set (m:MK)
  |del (m:MK)
  deriving Repr,DecidableEq
inductive gr where
  |gy (x:O)
  |pick (c a b:O)
  |new (zero:List K)
  |box (x:O)
  |build (zero:List K) (parts:List (Nat×Nat×O))
  |nW (sz len:Nat) (parts:List O)
  |load (agg:Bool) (n:Nat) (a:O)
  |store (n:Nat) (a x:O)
  |H8 (x:O)
  |bin (op:BinOp) (k:IntKind) (x y:O)
  |sh (left:Bool) (x y:O)
  |Mb (op:BinOp) (x y:O)
  |UQ (neg:Bool) (t:TS) (x y:O)
  |UO (neg:Bool) (ts:List TS) (x y:O)
  |Si (neg M0:Bool) (x:O)
  |UP (neg:Bool) (x:O)
  |not (x:O)
  |neg (x:O)
  |conv (k:IntKind) (x:O)
  |Ff (x:O)
  |slice (sz:Nat) (x:O) (lo hi:Option O)
  |AG (x:O) (lo hi:Option O)
  |k8 (off:Nat) (x:O)
  |field (agg:Bool) (off n:Nat) (x:O)
  |lf (sz:Nat) (x i:O)
  |MS (len sz:Nat) (x i:O)
  |MU (x i:O)
  |eF (agg:Bool) (len n:Nat) (x i:O)
  |extract (i:Nat) (x:O)
  |len (x:O)
  |M5 (x:O)
  |append (sz:Nat) (x y:O)
  |copy (sz:Nat) (x y:O)
  |clear (zero:List K) (x:O)
  |Na (f:Nat) (dJ:List O)
  |Nb (f:Nat) (first:List O)
  |pb (zero:List K) (len cap:O)
  |call (f:Nat) (args:List O)
  |s7 (x:O) (args:List O)
  |mq (q:MQ) (xs:List O)
  |mw (q:MW) (xs:List O)
  |Kj (x:O)
  |Kb (x:O)
  |snd (x y:O)
  |QU (x:O)
  |Fy (g:Nat)
  |bad
  deriving Repr,DecidableEq
structure cK where
  dst:Option Nat
  op:gr
  guard:Option (Nat×Bool)
  site:Nat
  hid:List Nat
  deriving Repr,DecidableEq
def q (d:Nat) (op:gr) (s:Nat):cK:=⟨some d,op,none,s,[]⟩
inductive VC where
  |skip
  |jo (draw:Bool) (ops:List cK)
  |seq (a b:VC)
  |cond (c:O) (x y:VC)
  |block (id:Nat) (c:VC)
  |loop (c:VC)
  |exit (id:Nat)
  |ret
  |one (o:cK) (c:VC)
  |both (a b:VC)
  |loc (t s:Nat) (y:O) (c:VC)
  |Pq (ops:List cK)
  deriving Repr,DecidableEq
inductive pq where
  |tmp (t:Nat)
  |cell (agg:Bool) (n:Nat) (t:Nat)
  deriving Repr,DecidableEq
structure IG where
  ntmps:Nat
  y5:Nat
  body:VC
  res:List pq
  deriving Repr,DecidableEq
def fW (P:Program) (f:Nat):Bool:=
  match P.funcs[f]? with
  |some fn=>fn.body.isSome&& !(fn.name== "runtime.NumGoroutine")
  |none=>false
def cO (P:Program):Operand->Option O
  | .tmp t=>some (.t t)
  | .const (.agg cs)=>(cs.toList.mapM Ha).map O.ka
  | .const v=>(Ha v).map O.k
  | .global _=>none
  | .func f=>if fW P f then some (.f f)else none
def jy (P:Program) (t:TypeId):Option (List K):=
  match P.info? t with
  |some i=>match i.zero with
    |some v=>if v.cells.size=i.size then v.cells.toList.mapM Ha else none
    |none=>none
  |none=>none
def ep (P:Program) (t:TypeId):Option Nat:=(P.info? t).map (·.size)
def lN (P:Program) (t:TypeId):Option Bool:=
  match P.underlying t with
  |some (.struct _)|some (.array _ _)=>some true
  |some _=>some false
  |none=>none
inductive VN where
  |sc (t:TS)|ag (ts:List TS)
  deriving Repr,DecidableEq
def fD (P:Program) (t:TypeId):Option TS:=
  match P.underlying t with
  |some .bool=>some .tB
  |some (.int _)=>some .tI
  |some .string=>some .tS
  |_=>none
def Dy (P:Program) (inner:List Field->Option (List TS)):Nat->List Field->Option (List TS)
  |_,[]=>some []
  |off,f::r=>
    if f.offset=off/\f.name≠ "_" then
      match fD P f.type with
      |some t=>if lN P f.type=some false then(Dy P inner (off+1) r).map (t::·)else none
      |none=>match P.underlying f.type with
        |some (.struct fs)=>if !P.stoodInHeld f.type then match inner fs.toList with
          |some ts=>if ep P f.type=some ts.length/\ts≠[]then(Dy P inner (off+ts.length) r).map (ts++·)else none
          |none=>none else none
        |_=>none
    else none
def eM (P:Program):Nat->Nat->List Field->Option (List TS)
  |0,_,[]=>some []
  |0,_,_::_=>none
  |d+1,off,fs=>Dy P (eM P d 0) off fs
def V1 (P:Program) (t:TypeId):Option VN:=
  match fD P t with
  |some s=>some (.sc s)
  |none=>match P.underlying t with
    |some (.struct fs)=>if !P.stoodInHeld t&& !P.eqGuardType P.depth t then(eM P 4 0 fs.toList).map VN.ag else none
    |_=>none
def r6 (P:Program) (fs:Array Field):List (Nat×O)->Option (List (Nat×Nat×O))
  |[]=>some []
  |(i,x)::r=>match fs[i]? with
    |some f=>match ep P f.type with
      |some n=>(r6 P fs r).map ((f.offset,n,x)::·)
      |none=>none
    |none=>none
def r9 (P:Program) (ps:Array (Nat×Operand)):Option (List (Nat×O)):=ps.toList.mapM fun(i,x)=>(cO P x).map (i,·)
def qD (P:Program):Option Operand->Option (Option O)
  |none=>some none
  |some x=>(cO P x).map some
def r7 (P:Program) (neg:Bool) (t:TypeId) (x y:Operand):Option gr:=
  match y with
  | .const (.slice none 0 0)=>match P.underlying t with
    |some (.slice _)=>(cO P x).map (gr.Si neg false)
    |_=>none
  | .const .nilFunc=>match P.underlying t with
    |some (.func ..)=>(cO P x).map (gr.Si neg true)
    |_=>none
  | .const (.pointer none)=>match P.underlying t with
    |some (.pointer _)=>(cO P x).map (gr.UP neg)
    |_=>none
  |_=>match V1 P t with
    |some (.sc s)=>do pure (.UQ neg s (<-cO P x) (<-cO P y))
    |some (.ag ts)=>do pure (.UO neg ts (<-cO P x) (<-cO P y))
    |_=>none
def uY (P:Program) (op:BinOp) (t:TypeId) (x y:Operand):Option gr:=
  match op with
  | .eql=>r7 P false t x y
  | .neq=>r7 P true t x y
  | .shl=>do pure (.sh true (<-cO P x) (<-cO P y))
  | .shr=>do pure (.sh false (<-cO P x) (<-cO P y))
  |op=>match P.underlying t with
    |some (.int k)=>do pure (.bin op k (<-cO P x) (<-cO P y))
    |some .string=>do pure (.Mb op (<-cO P x) (<-cO P y))
    |_=>none
def r8 (P:Program) (t:TypeId):Option (MK×K):=
  match P.underlying t with
  |some (.map k e)=>match lN P e,(P.info? e).bind (·.zero),fD P k,P.underlying k with
    |some false,some zv,some s,_=>(Ha zv).map fun z=>(⟨false,[s]⟩,z)
    |some false,some zv,none,some (.struct fs)=>match eM P 4 0 fs.toList,Ha zv with
      |some ts,some z=>if !P.stoodInHeld k/\fs.toList.all (fun f=>(fD P f.type).isSome)then some (⟨true,ts⟩,z)else none
      |_,_=>none
    |_,_,_,_=>none
  |_=>none
def mX (P:Program) (c:Call):Option gr:=
  match c.callee with
  | .builtin .len=>match c.args.toList,c.argTypes.toList with
    |[x],[t]=>match P.underlying t with
      |some (.slice _)=>(cO P x).map gr.len
      |some .string=>(cO P x).map gr.M5
      |some (.map _ _)=>match r8 P t,cO P x with
        |some (m,_),some x=>some (.mq (.len m) [x])
        |_,_=>none
      |some (.chan _ _)=>(cO P x).map gr.Kb
      |_=>none
    |_,_=>none
  | .builtin .append=>match c.args.toList,c.argTypes.toList with
    |[x,y],[t,u]=>match P.underlying t with
      |some (.slice e)=>match ep P e,jy P e,P.info? e with
        |some (sz+1),some _,some i=>if i.bytes<=32768/\t=u then do pure (.append (sz+1) (<-cO P x) (<-cO P y))else none
        |_,_,_=>none
      |_=>none
    |_,_=>none
  | .builtin .clear=>match c.args.toList,c.argTypes.toList with
    |[x],[t]=>match P.underlying t with
      |some (.slice e)=>match ep P e,jy P e with
        |some (_+1),some z=>(cO P x).map (gr.clear z)
        |_,_=>none
      |_=>none
    |_,_=>none
  | .value (.func f)=>if fW P f then(c.args.toList.mapM (cO P)).map (gr.call f)else none
  | .value (.tmp t)=>(c.args.toList.mapM (cO P)).map (gr.s7 (.t t))
  | .builtin .delete=>match c.args.toList,c.argTypes.toList with
    |[x,k],[t,_]=>match r8 P t,cO P x,cO P k with
      |some (m,_),some x,some k=>some (.mw (.del m) [x,k])
      |_,_,_=>none
    |_,_=>none
  | .builtin .copy=>match c.args.toList,c.argTypes.toList with
    |[x,y],[t,_]=>match P.underlying t with
      |some (.slice e)=>match ep P e with
        |some (sz+1)=>do pure (.copy (sz+1) (<-cO P x) (<-cO P y))
        |_=>none
      |_=>none
    |_,_=>none
  |_=>none
def qo (P:Program) (o:Op):Option gr:=
  match o with
  | .move x| .assign x=>(cO P x).map gr.gy
  | .pick c a b=>do pure (.pick (<-cO P c) (<-cO P a) (<-cO P b))
  | .alloc e=>(jy P e).map gr.new
  | .box _ x=>(cO P x).map gr.box
  | .load t (.global g)=>if ep P t=some 1/\lN P t=some false then some (.Fy g)else none
  | .load t a=>do pure (.load (<-lN P t) (<-ep P t) (<-cO P a))
  | .store t a x=>do pure (.store (<-ep P t) (<-cO P a) (<-cO P x))
  | .nilCheck x=>(cO P x).map gr.H8
  | .binOp op t x y _=>uY P op t x y
  | .unOp .not _ x=>(cO P x).map gr.not
  | .unOp .neg _ x=>(cO P x).map gr.neg
  | .convert s d x=>match P.underlying s,P.underlying d with
    |some (.int _),some (.int k)=>(cO P x).map (gr.conv k)
    |some .string,some .string=>(cO P x).map gr.Ff
    |_,_=>none
  | .slice t x lo hi none=>match P.underlying t with
    |some (.slice e)=>do
      pure (.slice (<-ep P e) (<-cO P x) (<-qD P lo) (<-qD P hi))
    |some .string=>do pure (.AG (<-cO P x) (<-qD P lo) (<-qD P hi))
    |_=>none
  | .fieldAddr s x i=>match P.underlying s with
    |some (.struct fs)=>match fs[i]? with
      |some f=>match ep P f.type with
        |some (_+1)=>(cO P x).map (gr.k8 f.offset)
        |_=>none
      |none=>none
    |_=>none
  | .field s x i=>match P.underlying s with
    |some (.struct fs)=>match fs[i]? with
      |some f=>do pure (.field (<-lN P f.type) f.offset (<-ep P f.type) (<-cO P x))
      |none=>none
    |_=>none
  | .indexAddr t x i=>match P.underlying t with
    |some (.slice e)=>match ep P e with
      |some (m+1)=>do pure (.lf (m+1) (<-cO P x) (<-cO P i))
      |_=>none
    |some (.array len e)=>match ep P e with
      |some (m+1)=>do pure (.MS len (m+1) (<-cO P x) (<-cO P i))
      |_=>none
    |_=>none
  | .index t x i=>match P.underlying t with
    |some .string=>do pure (.MU (<-cO P x) (<-cO P i))
    |some (.array len e)=>do pure (.eF (<-lN P e) len (<-ep P e) (<-cO P x) (<-cO P i))
    |_=>none
  | .extract x i=>(cO P x).map (gr.extract i)
  | .build t ps=>match P.underlying t with
    |some (.struct fs)=>
      match jy P t,r9 P ps with
      |some z,some l=>
        if fs.all (fun f=>(P.info? f.type).isSome)then(r6 P fs l).map (gr.build z)else none
      |_,_=>none
    |some (.array _ e)=>
      match jy P t,r9 P ps,ep P e with
      |some z,some l,some n=>some (.build z (l.map fun(i,x)=>(i*n,n,x)))
      |_,_,_=>none
    |_=>none
  | .buildSlice t len ps=>match P.underlying t with
    |some (.slice e)=>match ep P e,jy P e,r9 P ps with
      |some (sz+1),some _,some l=>
        if len*(sz+1)<=4096/\l.map (·.1)=List.range len then some (.nW (sz+1) len (l.map (·.2)))else none
      |_,_,_=>none
    |_=>none
  | .makeFunc (.func f) first dJ=>
    if first= #[]/\fW P f then(dJ.toList.mapM (cO P)).map (gr.Na f)else if dJ= #[]/\fW P f then(first.toList.mapM (cO P)).map (gr.Nb f)else none
  | .makeSlice t l c=>match P.underlying t with
    |some (.slice e)=>match ep P e,jy P e,P.info? e with
      |some (_+1),some z,some i=>if i.bytes<=32768 then do pure (.pb z (<-cO P l) (<-cO P c))else none
      |_,_,_=>none
    |_=>none
  | .call c=>mX P c
  | .makeChan t n=>match P.underlying t with
    |some (.chan _ e)=>match P.info? e with
      |some i=>if i.bytes<=32768 then(cO P n).map gr.Kj else none
      |none=>none
    |_=>none
  | .send x y=>do pure (.snd (<-cO P x) (<-cO P y))
  | .recv t x false=>match P.underlying t with
    |some (.chan _ e)=>match (P.info? e).bind (·.zero)with
      |some _=>(cO P x).map gr.QU
      |none=>none
    |_=>none
  | .makeMap t none=>match r8 P t with
    |some (m,_)=>some (.mq (.new m) [])
    |none=>none
  | .lookup t x k ok=>match r8 P t,cO P x,cO P k with
    |some (m,z),some x,some k=>some (.mq (.look m ok z) [x,k])
    |_,_,_=>none
  | .mapUpdate t x k v| .insert t x k v=>match r8 P t,cO P x,cO P k,cO P v with
    |some (m,_),some x,some k,some v=>some (.mw (.set m) [x,k,v])
    |_,_,_,_=>none
  | .makeInterface _ _=>some .bad
  | .panic _=>some .bad
  |_=>none
inductive VL where
  |pure|look|make|write
  deriving DecidableEq,Repr
def gr.cls:gr->VL
  | .new _| .box _| .nW .. | .pb .. | .mq (.new _) _| .Kj _=>.make
  | .Fy _| .load .. | .lf .. | .slice .. | .call .. | .s7 .. | .mq .. | .Kb _=>.look
  | .store .. | .append .. | .copy .. | .clear .. | .mw .. | .snd .. | .QU _=>.write
  |_=>.pure
def clash:VL->VL->Bool
  | .pure,_|_,.pure=>false
  | .write,_|_,.write=>true
  |_,_=>false
def jb (ops:Array Oper):Array Nat:=Region.before ops
def qc:gr->Bool:=fun o=>o.cls==.make||o.cls==.write
def gr.lz:gr->Bool
  | .call .. | .s7 .. =>true
  |_=>false
def Dn (ops:Array Oper) (o:Oper):Option (Option (Nat×Bool)):=
  match o.guard with
  |none=>some none
  |some (i,b)=>match (ops[i]?).bind (·.dst)with
    |some t=>some (some (t,b))
    |none=>none
def kh (P:Program) (ops:Array Oper) (nt site0:Nat) (draw mk:Bool) (bs:Array Nat) (hidden:List (Nat×Bool)) (j:Nat) (o:Oper):Option cK:=do
  let v <-qo P o.op
  let g <-Dn ops o
  if (o.dst.all fun d=>decide (d<nt))then
    pure {dst:=o.dst,op:=v,guard:=g,site:=site0+j,hid:=if draw then(hidden.filter fun(i,m)=>m&& !(bs.getD j 0).testBit i&&(i !=j||mk&&v.lz)).map fun(i,_)=>site0+i else[]}
  else none
def allM {α:Type} (f:Nat->Oper->Option α):List Oper->Nat->Option (List α)
  |[],_=>some []
  |o::r,j=>do pure ((<-f j o)::(<-allM f r (j+1)))
def gI:O->List Nat
  | .t n=>[n]
  |_=>[]
def wO:Option O->List Nat
  |some x=>gI x
  |none=>[]
def gr.gz:gr->List Nat
  | .clear _ x| .gy x| .box x| .load _ _ x| .H8 x| .Si _ _ x| .UP _ x| .not x| .neg x| .conv _ x| .Ff x| .k8 _ x| .field _ _ _ x| .extract _ x| .len x| .M5 x| .Kj x| .Kb x| .QU x=>gI x
  | .pick c a b=>gI c++gI a++gI b
  | .new _| .Fy _| .bad=>[]
  | .build _ ps=>ps.flatMap fun(_,_,x)=>gI x
  | .nW _ _ ps=>ps.flatMap gI
  | .store _ a x| .snd a x=>gI a++gI x
  | .bin _ _ x y| .sh _ x y| .Mb _ x y| .UQ _ _ x y| .UO _ _ x y| .lf _ x y| .MS _ _ x y| .MU x y| .eF _ _ _ x y| .append _ x y| .copy _ x y| .pb _ x y=>gI x++gI y
  | .slice _ x lo hi| .AG x lo hi=>gI x++wO lo++wO hi
  | .Na _ l| .Nb _ l| .call _ l| .mq _ l| .mw _ l=>l.flatMap gI
  | .s7 x l=>gI x++l.flatMap gI
def cK.gz (v:cK):List Nat:=v.op.gz++(match v.guard with|some (t,_)=>[t]|none=>[])
def sW (x y:cK):Bool:=
  (match x.dst with
   |some d=> !y.gz.contains d&&y.dst !=some d
   |none=>true)&&
  (match y.dst with
   |some d=> !x.gz.contains d
   |none=>true)
def cK.makes (v:cK):Bool:=qc v.op||v.op.lz&&v.hid.contains v.site
def Fu (x y:cK):Bool:=
  sW x y&& !clash x.op.cls y.op.cls&&(!x.makes||y.hid.contains x.site)&&(!y.makes||x.hid.contains y.site)&&x.site !=y.site
def Fg (ops:Array Oper):Bool:=ops.toList.zipIdx.all fun(o,j)=>o.after.all fun e=> !Region.binds .any e||decide (e.on<j)
def oc (ops:Array Oper) (vl:List cK) (bs:Array Nat):Bool:=
  Fg ops&&vl.zipIdx.all fun(y,j)=>vl.zipIdx.all fun(x,i)=> !(decide (i<j))||(bs.getD j 0).testBit i||Fu x y
def qE (P:Program) (nt site0:Nat) (ops:Array Oper) (draw mk:Bool):Option (List cK):=
  let bs:=if draw then jb ops else #[]
  let hidden:=if draw then ops.toList.zipIdx.map fun(o,i)=>(i,((qo P o.op).map fun v=>qc v||mk&&v.lz).getD false)else[]
  match allM (kh P ops nt site0 draw mk bs hidden) ops.toList 0 with
  |some vl=>if !draw||oc ops vl bs then some vl else none
  |none=>none
def kF (v:cK):Bool:= !v.op.lz&&v.op.cls !=.write
def yq (x y:cK):Bool:=sW x y&&x.op.cls==.pure||Fu x y&&kF x&&kF y
def pT (ops:Array Oper) (vl:List cK) (bs:Array Nat) (listed:Array Bool) (i:Nat):Bool:=
  match vl[i]? with
  |some x=>(List.range ops.size).all fun j=>listed.getD j false||j==i||(bs.getD j 0).testBit i||(match vl[j]? with|some y=>yq x y|none=>false)
  |none=>false
def OA (vl:List cK) (x:cK):Option (Nat×Nat×O):=
  match x.op,x.guard with
  | .append _ (.t t) y,none=>match vl.find? fun v=>v.dst==some t&&v.op.cls==.make with
    |some v=>some (t,v.site,y)
    |none=>none
  |_,_=>none
def Ft (s:Nat) (x y:cK):Bool:=sW x y&&kF y&&y.hid.contains s&&y.hid.contains x.site&&y.site !=s&&y.site !=x.site
def oi (ops:Array Oper) (vl:List cK) (bs:Array Nat) (listed:Array Bool) (i s:Nat):Bool:=
  match vl[i]? with
  |some x=>(List.range ops.size).all fun j=>listed.getD j false||j==i||(bs.getD j 0).testBit i||(match vl[j]? with|some y=>Ft s x y|none=>false)
  |none=>false
def QK (ops:Array Oper) (vl:List cK) (bs:Array Nat) (listed:Array Bool) (i:Nat):Option (Nat×Nat×Nat×O×cK):=
  match vl[i]? with
  |some x=>match OA vl x with
    |some (t,s,y)=>if oi ops vl bs listed i s then some (i,t,s,y,x)else none
    |none=>none
  |none=>none
def Bg:List VC->Option VC
  |[]=>none
  |[c]=>some c
  |c::r=>(Bg r).map (VC.both c)
def tL (ops:Array Oper) (vl:List cK) (bs:Array Nat):Nat->Array Bool->Option VC
  |0,listed=>
    match Region.ready .any ops listed with
    |[]=>some (.jo false [])
    |_::_=>none
  |n+1,listed=>
    match Region.ready .any ops listed with
    |[]=>some (.jo false [])
    |r::rs=>let rdy:=r::rs
      match rdy.find? (pT ops vl bs listed)with
      |some i=>match vl[i]? with
        |some vo=>(tL ops vl bs n (listed.setIfInBounds i true)).map (VC.one vo)
        |none=>none
      |none=>match rdy.findSome? (QK ops vl bs listed)with
        |some (i,t,s,y,vo)=>(tL ops vl bs n (listed.setIfInBounds i true)).map fun c=>VC.loc t s y (.one vo c)
        |none=>match rdy.mapM fun i=>(vl[i]?).bind fun vo=>(tL ops vl bs n (listed.setIfInBounds i true)).map (VC.one vo)with
          |some l=>Bg l
          |none=>none
def Oy:Op->Bool
  | .send .. | .recv .. =>true
  |_=>false
def R9 (P:Program) (nt site0:Nat) (ops:Array Oper) (draw:Bool) (mode:Nat):Option VC:=
  if draw&&mode==2 then
    match allM (kh P ops nt site0 true false (jb ops) (ops.toList.zipIdx.map fun(o,i)=>(i,((qo P o.op).map qc).getD false))) ops.toList 0 with
    |some vl=>tL ops vl (jb ops) ops.size (Array.replicate ops.size false)
    |none=>none
  else if !draw&&ops.any (fun o=>Oy o.op)then(qE P nt site0 ops false false).map VC.Pq
  else(qE P nt site0 ops draw (mode==1)).map (VC.jo draw)
def sE (md:List (Nat×Nat)) (id:Nat):Nat:=
  match md with
  |[]=>0
  |(i,m)::r=>if i=id then m else sE r id
def iA (P:Program) (md:List (Nat×Nat)) (nt fid:Nat):Code->Option VC
  | .skip=>some .skip
  | .region id ops draw=>R9 P nt ((fid*1000+id)*1000) ops draw (sE md id)
  | .seq a b=>do pure (.seq (<-iA P md nt fid a) (<-iA P md nt fid b))
  | .cond c x y=>do pure (.cond (<-cO P c) (<-iA P md nt fid x) (<-iA P md nt fid y))
  | .block id c=>(iA P md nt fid c).map (VC.block id)
  | .loop c=>(iA P md nt fid c).map VC.loop
  | .exit id=>some (.exit id)
  | .ret=>some .ret
  | .label _=>some .skip
  | .scope c=>iA P md nt fid c
  |_=>none
def Dp (P:Program) (r:ResultVar):Option pq:=
  match r with
  | .tmp t=>some (.tmp t)
  | .cell a t=>do pure (.cell (<-lN P t) (<-ep P t) a)
def zI (P:Program) (f:Nat) (md:List (Nat×Nat)):Option IG:=
  match P.funcs[f]? with
  |some fn=>match fn.body with
    |some c=>do
      let b <-iA P md fn.ntmps f c
      let r <-fn.results.toList.mapM (Dp P)
      if fn.params.size+fn.nfree<=fn.ntmps then pure {ntmps:=fn.ntmps,y5:=fn.params.size+fn.nfree,body:=b,res:=r}else none
    |none=>none
  |none=>none
def Bh (P:Program) (f:Nat):Option IG:=zI P f []
theorem ab {P:Prop} (h:P:=by omega):P:=h
theorem bL {P:Prop} (h:P:=by(try dsimp only);omega):P:=h
structure Row where
 w:Bool
 sz:Nat
 rows:List (List AV)
abbrev Rows:=Id->Option Row
structure aq where
 get:Rows
 next:Nat
abbrev Env:=Nat->AV
def upd (env:Env):Option Nat->AV->Env
 |some d,v=>fun t=>if t=d then v else env t
 |none,_=>env
inductive Ex where
 |normal
 |exit (id:Nat)
 |ret
 deriving DecidableEq
def cY (env:Env):O->AV
 | .t n=>env n
 | .k c=>c.av
 | .ka cs=>.agg (cs.map K.av)
 | .f n=>.fn n []
def bH (g:Rows) (id:Id) (r:Row):Rows:=fun i=>if i=id then some r else g i
def bI (g:Rows) (id:Id):Rows:=fun i=>if i=id then none else g i
def eC:List Nat->Nat->Rows->Rows
 |[],_,g=>g
 |h::t,n,g=>fun id=>if (h::t).contains id.site=true/\id.cW=n then none else g id
def ro (g:Rows):Rows:=fun id=>(g id).map fun r=>{r with w:=false}
def part (agg:Bool) (n:Nat) (cs:List AV):Option AV:=
 if agg then(if n<=cs.length then some (.agg (cs.take n))else none)else cs.head?
def rowAt (g:Rows) (id:Id) (i:Nat):Option (List AV):=(g id).bind (·.rows[i]?)
def ld (g:Rows) (agg:Bool) (n:Nat):AV->Option AV
 | .ptr id i off=>(rowAt g id i).bind fun cs=>part agg n (cs.drop off)
 | .eT cs=>part agg n cs
 |_=>none
def cX:BinOp->IntKind->Int->Int->Option AV
 | .add,k,a,b=>some (.int k (k.wrap (a+b)))
 | .sub,k,a,b=>some (.int k (k.wrap (a-b)))
 | .mul,k,a,b=>some (.int k (k.wrap (a*b)))
 | .quo,k,a,b=>if b=0 then none else some (.int k (k.wrap (a.tdiv b)))
 | .rem,k,a,b=>if b=0 then none else some (.int k (a.tmod b))
 | .lss,_,a,b=>some (.bool (decide (a<b)))
 | .leq,_,a,b=>some (.bool (decide (a<=b)))
 | .gtr,_,a,b=>some (.bool (decide (b<a)))
 | .geq,_,a,b=>some (.bool (decide (b<=a)))
 | .and,k,a,b=>some (.int k (k.wrap (BitVec.ofInt k.bits a&&& BitVec.ofInt k.bits b).toNat))
 | .or,k,a,b=>some (.int k (k.wrap (BitVec.ofInt k.bits a|||BitVec.ofInt k.bits b).toNat))
 | .xor,k,a,b=>some (.int k (k.wrap (BitVec.ofInt k.bits a ^^^ BitVec.ofInt k.bits b).toNat))
 |_,_,_,_=>none
def dj (op:BinOp):AV->AV->Option AV
 | .int k a,.int k' b=>if k=k' then cX op k a b else none
 |_,_=>none
def eQ (left:Bool):AV->AV->Option AV
 | .int k a,.int _ b=>if b<0 then none else some (.int k (if left then k.wrap (a*2 ^ min b.toNat k.bits)else a.fdiv (2 ^ min b.toNat k.bits)))
 |_,_=>none
def dx:BinOp->ByteArray->ByteArray->Option AV
 | .add,a,b=>if a.size+b.size<=9223372036854775807 then some (.str (a++b))else none
 | .lss,a,b=>some (.bool (Op.bytesLess a.toList b.toList))
 | .leq,a,b=>some (.bool (Op.bytesLess a.toList b.toList||(a.toList==b.toList)))
 | .gtr,a,b=>some (.bool !(Op.bytesLess a.toList b.toList||(a.toList==b.toList)))
 | .geq,a,b=>some (.bool !(Op.bytesLess a.toList b.toList))
 |_,_,_=>none
def cF (op:BinOp):AV->AV->Option AV
 | .str a,.str b=>dx op a b
 |_,_=>none
def eA:TS->AV->AV->Option Bool
 | .tI,.int k a,.int k' b=>if k=k' then some (decide (a=b))else none
 | .tB,.bool a,.bool b=>some (a==b)
 | .tS,.str a,.str b=>some (decide (a=b))
 |_,_,_=>none
def ed:List TS->List AV->List AV->Option Bool
 |[],[],[]=>some true
 |t::ts,a::r,b::s=>match eA t a b,ed ts r s with
  |some x,some y=>some (x&&y)
  |_,_=>none
 |_,_,_=>none
def cQ (neg b:Bool):Bool:=if neg then !b else b
def cD:AV->Option Bool
 | .bB=>some true
 | .own _ _ _=>some false
 | .sl (_::_)=>some false
 |_=>none
def cC:AV->Option Bool
 | .iU=>some true
 | .fn _ _=>some false
 |_=>none
def Li:AV->Option Bool
 | .gO=>some true
 | .ptr .. | .eT _=>some false
 |_=>none
def dq (M0:Bool) (x:AV):Option Bool:=if M0 then cC x else cD x
def dc (len:Nat):Option AV->Option Nat
 |none=>some len
 |some (.int _ n)=>if 0<=n/\n<=len then some n.toNat else none
 |_=>none
def de (h:Nat):Option AV->Option Nat
 |none=>some 0
 |some (.int _ n)=>if 0<=n/\n<=h then some n.toNat else none
 |_=>none
def bu (g:Rows) (sz:Nat) (x:AV) (lo hi:Option AV):Option AV:=
 match x with
 | .bB=>(dc 0 hi).bind fun h=>(de h lo).map fun _=>.bB
 | .sl rows=>(dc rows.length hi).bind fun h=>(de h lo).bind fun l=>if ∀cs∈rows,cs.length=sz then some (.sl ((rows.drop l).take (h-l)))else none
 | .own id off len=>(g id).bind fun r=>(dc len hi).bind fun h=>(de h lo).bind fun l=>if r.sz=sz then some (.own id (off+l) (h-l))else none
 |_=>none
def aE (x:AV) (lo hi:Option AV):Option AV:=
 match x with
 | .str s=>(dc s.size hi).bind fun h=>(de h lo).map fun l=>.str (s.extract l h)
 |_=>none
def EW (off:Nat):AV->Option AV
 | .ptr id i o=>some (.ptr id i (o+off))
 | .eT cs=>some (.eT (cs.drop off))
 |_=>none
def bt (g:Rows) (sz:Nat):AV->AV->Option AV
 | .sl rows,.int _ n=>if 0<=n then(rows[n.toNat]?).bind fun cs=>if cs.length=sz then some (.eT cs)else none else none
 | .own id off len,.int _ n=>if 0<=n/\n<len then(g id).bind fun r=>if r.sz=sz then some (.ptr id (off+n.toNat) 0)else none else none
 |_,_=>none
def cm (len sz:Nat):AV->AV->Option AV
 | .ptr id r off,.int _ n=>if 0<=n/\n<len then some (.ptr id r (off+n.toNat*sz))else none
 | .eT cs,.int _ n=>if 0<=n/\n<len then some (.eT (cs.drop (n.toNat*sz)))else none
 |_,_=>none
def cr:AV->AV->Option AV
 | .str s,.int _ n=>if 0<=n then(s[n.toNat]?).map fun b=>.int .u8 b.toNat else none
 |_,_=>none
def cq (agg:Bool) (len n:Nat):AV->AV->Option AV
 | .agg cs,.int _ i=>if 0<=i/\i<len then part agg n (cs.drop (i.toNat*n))else none
 |_,_=>none
def dn:AV->Option Nat
 | .bB=>some 0
 | .sl rows=>some rows.length
 | .own _ _ n=>some n
 |_=>none
def dr:AV->Option AV
 | .bool b=>some (.bool !b)
 |_=>none
def dp:AV->Option AV
 | .int k n=>some (.int k (k.wrap (0-n)))
 |_=>none
def ck (k:IntKind):AV->Option AV
 | .int _ n=>some (.int k (k.wrap n))
 |_=>none
def bz:AV->Option AV
 | .str s=>some (.str s)
 |_=>none
def cE:AV->AV->AV->Option AV
 | .bool c,a,b=>some (if c then a else b)
 |_,_,_=>none
def dm:AV->Option AV
 | .ptr id i o=>some (.ptr id i o)
 | .eT cs=>some (.eT cs)
 |_=>none
def br (agg:Bool) (off n:Nat):AV->Option AV
 | .agg cs=>if off+n<=cs.length then part agg n (cs.drop off)else none
 |_=>none
def aw (i:Nat):AV->Option AV
 | .fK vs=>vs[i]?
 |_=>none
def cw:AV->Option AV
 | .str s=>some (.int .i64 s.size)
 |_=>none
def rowOf (sz:Nat) (v:AV):Option (List AV):=if v.cells.length=sz/\v.cells.all AV.cell then some v.cells else none
def bZ (v:AV):Option (List AV):=if v.cells.all AV.cell then some v.cells else none
def rowsOf (sz:Nat):List AV->Option (List (List AV))
 |[]=>some []
 |v::r=>(rowOf sz v).bind fun c=>(rowsOf sz r).map fun cs=>c::cs
def bQ:List AV->List (Nat×Nat×AV)->Option (List AV)
 |cs,[]=>some cs
 |cs,(off,n,v)::r=>if v.cells.length=n/\off+n<=cs.length/\v.cells.all AV.cell then bQ (cs.take off++v.cells++cs.drop (off+n)) r else none
def cZ:Nat:=16777216
def eP (zero:List K):AV->AV->Option (Nat×Row)
 | .int _ l,.int _ c=>if 0<=l/\l<=c/\c<=cZ then some (l.toNat,⟨true,zero.length,List.replicate l.toNat (zero.map K.av)⟩)else none
 |_,_=>none
def Kk:Nat:=1000000000
def MK.ks (m:MK):Nat:=m.ts.length
def MK.j5 (m:MK):Nat:=Kk+m.ks
def AV.isAgg:AV->Bool
 | .agg _=>true
 |_=>false
def fB (m:MK) (key:List AV):List (List AV)->Nat->Option (Option Nat)
 |[],_=>some none
 |r::l,i=>match ed m.ts key (r.take m.ks)with
  |some true=>some (some i)
  |some false=>fB m key l (i+1)
  |none=>none
def dh (g:Rows) (m:MK):AV->Option (Id×Row)
 | .map id m'=>if m'=m then(g id).map fun r=>(id,r)else none
 |_=>none
def fb (m:MK) (k:AV) (rows:List (List AV)):Option (Option Nat):=if k.isAgg=m.ka/\k.cells.length=m.ks/\k.cells.all AV.cell then fB m k.cells rows 0 else none
def di (m:MK) (z:K) (rows:List (List AV)):Option Nat->Option AV
 |some i=>(rows[i]?).bind fun cs=>cs[m.ks]?
 |none=>some z.av
def bd (q:MQ) (vs:List AV) (g:Rows) (id:Id):Option (AV×Option Row):=
 match q,vs with
 | .new m,[]=>some (.map id m,some ⟨true,m.j5,[]⟩)
 | .look m ok z,[x,k]=>(dh g m x).bind fun p=>(fb m k p.2.rows).bind fun fi=>(di m z p.2.rows fi).map fun v=>(if ok then .fK [v,.bool fi.isSome]else v,none)
 | .len m,[x]=>(dh g m x).map fun p=>(.int .i64 p.2.rows.length,none)
 |_,_=>none
def qH:Nat:=2000000000
def cz:AV->Option Nat
 | .int _ n=>if 0<=n/\n<=1048576 then some n.toNat else none
 |_=>none
def cu (g:Rows):AV->Option AV
 | .qF id=>(g id).map fun r=>.int .i64 r.rows.length
 |_=>none
def du (g:Rows):AV->AV->Option Rows
 | .qF id,v=>(g id).bind fun r=>if r.w/\qH+r.rows.length<r.sz/\v.cell then some (bH g id {r with rows:=r.rows++[[v]]})else none
 |_,_=>none
def dt (g:Rows):AV->Option (AV×Rows)
 | .qF id=>(g id).bind fun r=>match r.rows with
  |[v]::rest=>if r.w then some (v,bH g id {r with rows:=rest})else none
  |_=>none
 |_=>none
def c6 (rows:List (List AV)) (e:List AV):Option Nat->List (List AV)
 |some i=>rows.set i e
 |none=>rows++[e]
def da (rows:List (List AV)):Option Nat->List (List AV)
 |some i=>rows.eraseIdx i
 |none=>rows
def bj (q:MW) (vs:List AV) (g:Rows):Option Rows:=
 match q,vs with
 | .set m,[x,k,v]=>(dh g m x).bind fun p=>(fb m k p.2.rows).bind fun fi=>if p.2.w/\v.cell/\v.isAgg=false then some (bH g p.1 {p.2 with rows:=c6 p.2.rows (k.cells++[v]) fi})else none
 | .del m,[x,k]=>(dh g m x).bind fun p=>(fb m k p.2.rows).bind fun fi=>if p.2.w then some (bH g p.1 {p.2 with rows:=da p.2.rows fi})else none
 |_,_=>none
def oq (k:Nat):Id:=⟨999000000+k,0⟩
def eO (g:Rows) (k:Nat):Option AV:=(rowAt g (oq k) 0).bind fun cs=>match cs with
 |[.err j t s]=>if j=k then some (.err k t s)else none
 |_=>none
def dZ (o:gr) (ρ:O->AV) (g:Rows) (id:Id):Option (AV×Option Row):=
 match o with
 | .gy x=>some (ρ x,none)
 | .pick c a b=>(cE (ρ c) (ρ a) (ρ b)).map (·,none)
 | .new zero=>some (.ptr id 0 0,some ⟨true,zero.length,[zero.map K.av]⟩)
 | .box x=>(bZ (ρ x)).map fun cs=>(.ptr id 0 0,some ⟨true,cs.length,[cs]⟩)
 | .build zero parts=>(bQ (zero.map K.av) (parts.map fun(o,n,x)=>(o,n,ρ x))).map fun cs=>(.agg cs,none)
 | .nW sz len parts=>(rowsOf sz (parts.map ρ)).map fun rs=>(.own id 0 len,some ⟨true,sz,rs⟩)
 | .load agg n a=>(ld g agg n (ρ a)).map (·,none)
 | .H8 x=>(dm (ρ x)).map (·,none)
 | .bin op _ x y=>(dj op (ρ x) (ρ y)).map (·,none)
 | .sh left x y=>(eQ left (ρ x) (ρ y)).map (·,none)
 | .Mb op x y=>(cF op (ρ x) (ρ y)).map (·,none)
 | .UQ neg t x y=>(eA t (ρ x) (ρ y)).map fun b=>(.bool (cQ neg b),none)
 | .UO neg ts x y=>match ρ x,ρ y with
  | .agg xs,.agg ys=>(ed ts xs ys).map fun b=>(.bool (cQ neg b),none)
  |_,_=>none
 | .Si neg M0 x=>(dq M0 (ρ x)).map fun b=>(.bool (cQ neg b),none)
 | .UP neg x=>(Li (ρ x)).map fun b=>(.bool (cQ neg b),none)
 | .not x=>(dr (ρ x)).map (·,none)
 | .neg x=>(dp (ρ x)).map (·,none)
 | .conv k x=>(ck k (ρ x)).map (·,none)
 | .Ff x=>(bz (ρ x)).map (·,none)
 | .slice sz x lo hi=>(bu g sz (ρ x) (lo.map ρ) (hi.map ρ)).map (·,none)
 | .AG x lo hi=>(aE (ρ x) (lo.map ρ) (hi.map ρ)).map (·,none)
 | .k8 off x=>(EW off (ρ x)).map (·,none)
 | .field agg off n x=>(br agg off n (ρ x)).map (·,none)
 | .lf sz x i=>(bt g sz (ρ x) (ρ i)).map (·,none)
 | .MS len sz x i=>(cm len sz (ρ x) (ρ i)).map (·,none)
 | .MU x i=>(cr (ρ x) (ρ i)).map (·,none)
 | .eF agg len n x i=>(cq agg len n (ρ x) (ρ i)).map (·,none)
 | .extract i x=>(aw i (ρ x)).map (·,none)
 | .len x=>(dn (ρ x)).map fun(n:Nat)=>(AV.int .i64 (n:Int),none)
 | .M5 x=>(cw (ρ x)).map (·,none)
 | .Na f dJ=>some (.fn f (dJ.map ρ),none)
 | .Nb f first=>some (.tD f (first.map ρ),none)
 | .pb zero l c=>(eP zero (ρ l) (ρ c)).map fun(n,r)=>(.own id 0 n,some r)
 | .mq q xs=>bd q (xs.map ρ) g id
 | .Kj x=>(cz (ρ x)).map fun n=>(.qF id,some ⟨true,qH+n,[]⟩)
 | .Kb x=>(cu g (ρ x)).map (·,none)
 | .Fy k=>(eO g k).map (·,none)
 |_=>none
def aZ (g:Rows):AV->Option (List (List AV))
 | .bB=>some []
 | .sl rows=>some rows
 | .own id off len=>(g id).bind fun r=>if off+len<=r.rows.length then some ((r.rows.drop off).take len)else none
 |_=>none
def bW (cs:List AV) (off:Nat) (xs:List AV):List AV:=cs.take off++xs++cs.drop (off+xs.length)
def bx (g:Rows) (n:Nat) (v:AV):AV->Option Rows
 | .ptr id i off=>(g id).bind fun r=>(r.rows[i]?).bind fun cs=>
  if r.w/\v.cells.length=n/\v.cells.all AV.cell/\off+n<=cs.length then some (bH g id {r with rows:=r.rows.set i (bW cs off v.cells)})else none
 |_=>none
def aD (g:Rows) (id:Id) (sz:Nat) (x:AV) (ys:List (List AV)):Option (AV×Rows):=
 match x with
 | .bB=>match ys with
  |[]=>some (.bB,g)
  |y::r=>if (y::r).length<=cZ/\(y::r).all (fun c=>c.length==sz&&c.all AV.cell)then some (.own id 0 (y::r).length,bH g id ⟨true,sz,y::r⟩)else none
 | .own i 0 len=>(g i).bind fun r=>
  if r.w/\r.sz=sz/\len=r.rows.length/\len+ys.length<=cZ/\ys.all (fun c=>c.length==sz&&c.all AV.cell)then some (.own id 0 (len+ys.length),bH (bI g i) id ⟨true,sz,r.rows++ys⟩)else none
 |_=>none
def Ga (g:Rows) (sz:Nat) (x:AV) (ys:List (List AV)):Option (AV×Rows):=
 match x with
 | .own i off len=>(g i).bind fun r=>
  if r.w/\r.sz=sz/\off+len<=r.rows.length/\ys.all (fun c=>c.length==sz&&c.all AV.cell)then
   some (.int .i64 (min ys.length len:Nat),bH g i {r with rows:=r.rows.take off++ys.take (min ys.length len)++r.rows.drop (off+min ys.length len)})else none
 |_=>none
def bq (g:Rows) (zero:List K) (x:AV):Option Rows:=
 match x with
 | .bB=>some g
 | .own i off len=>(g i).bind fun r=>
  if r.w/\r.sz=zero.length/\off+len<=r.rows.length then
   some (bH g i {r with rows:=r.rows.take off++List.replicate len (zero.map K.av)++r.rows.drop (off+len)})else none
 |_=>none
def eE (o:gr) (ρ:O->AV) (g:Rows) (id:Id):Option (AV×Rows):=
 match o with
 | .store n a x=>(bx g n (ρ x) (ρ a)).map fun g'=>(.undef,g')
 | .append sz x y=>(aZ g (ρ y)).bind fun ys=>aD g id sz (ρ x) ys
 | .copy sz x y=>(aZ g (ρ y)).bind fun ys=>Ga g sz (ρ x) ys
 | .clear zero x=>(bq g zero (ρ x)).map fun g'=>(.undef,g')
 | .mw q xs=>(bj q (xs.map ρ) g).map fun g'=>(.undef,g')
 |_=>none
def u7:AV->List AV->Option (Nat×List AV)
 | .fn f dJ,l=>some (f,l++dJ)
 | .tD f first,l=>some (f,first++l)
 |_,_=>none
abbrev fU:=Nat->List AV->aq->(AV->aq->Prop)->Prop
mutual
def fz (g:Rows):Nat->AV->Option AV
 |0,_=>none
 |n+1,a=>match a with
  | .own id off len=>match g id with
   |some r=>if r.w then(if off+len<=r.rows.length then(eX g n ((r.rows.drop off).take len)).map AV.sl else none)else none
   |none=>none
  | .ptr id i off=>match g id with
   |some r=>if r.w then(match r.rows[i]? with
    |some cs=>(er g n (cs.drop off)).map AV.eT
    |none=>none)else none
   |none=>none
  | .agg cs=>(er g n cs).map AV.agg
  | .fK vs=>(er g n vs).map AV.fK
  | .fn f dJ=>if dJ.all AV.cell then(er g n dJ).map (AV.fn f)else none
  | .map _ _| .tD _ _| .qF _=>none
  |v=>some v
 termination_by n _=>(n,0)
def er (g:Rows):Nat->List AV->Option (List AV)
 |n,[]=>some []
 |n,a::r=>match fz g n a with
  |some b=>(er g n r).map (b::·)
  |none=>none
 termination_by n l=>(n,l.length+1)
def eX (g:Rows):Nat->List (List AV)->Option (List (List AV))
 |n,[]=>some []
 |n,c::r=>match er g n c with
  |some b=>(eX g n r).map (b::·)
  |none=>none
 termination_by n l=>(n,(l.map (fun c=>c.length+2)).sum+1)
 decreasing_by all_goals simp_wf;try omega
end
mutual
def gE (g:Rows):Nat->AV->Option AV
 |0,_=>none
 |n+1,a=>match a with
  | .own id off len=>match g id with
   |some r=>if r.w then(if off+len<=r.rows.length then(gn g n ((r.rows.drop off).take len)).map AV.sl else none)else none
   |none=>none
  | .ptr id i off=>match g id with
   |some r=>if r.w then(match r.rows[i]? with
    |some cs=>(fa g n (cs.drop off)).map AV.eT
    |none=>none)else none
   |none=>none
  | .agg cs=>(fa g n cs).map AV.agg
  | .fK vs=>(fa g n vs).map AV.fK
  | .int k m=>some (.int k m)
  | .bool b=>some (.bool b)
  | .str s=>some (.str s)
  | .bB=>some .bB
  | .gO=>some .gO
  | .iU=>some .iU
  | .jd=>some .jd
  | .iF=>some .iF
  |_=>none
 termination_by n _=>(n,0)
def fa (g:Rows):Nat->List AV->Option (List AV)
 |n,[]=>some []
 |n,a::r=>match gE g n a with
  |some b=>(fa g n r).map (b::·)
  |none=>none
 termination_by n l=>(n,l.length+1)
def gn (g:Rows):Nat->List (List AV)->Option (List (List AV))
 |n,[]=>some []
 |n,c::r=>match fa g n c with
  |some b=>(gn g n r).map (b::·)
  |none=>none
 termination_by n l=>(n,(l.map (fun c=>c.length+2)).sum+1)
 decreasing_by all_goals simp_wf;try omega
end
def dW (g:Rows):Rows:=fun id=>(g id).map fun r=>{r with w:=true}
def PC (X:fU) (f:Nat) (args:List AV) (σ:aq) (K:AV->Prop):Prop:=
 X f args ⟨ro σ.get,σ.next⟩ fun r σ'=>∃r',fz σ'.get 6 r=some r'/\K r'
def PCv (X:fU) (f:Nat) (args:List AV) (σ:aq) (K:AV->Prop):Prop:=
 ∃args',er (dW σ.get) 6 args=some args'/\X f args' ⟨fun _=>none,σ.next⟩ fun r σ'=>∃r',gE σ'.get 6 r=some r'/\K r'
def ez (X:fU) (f:Nat) (args:List AV) (σ:aq) (K:AV->Prop):Prop:=PC X f args σ K∨PCv X f args σ K
def ay (g:Option (Nat×Bool)) (env:Env):Bool:=
 match g with
 |none=>true
 |some (t,b)=>match env t with
  | .bool c=>c==b
  |_=>false
def AV.plain:AV->Bool
 | .int .. | .bool _| .str _| .bB| .gO| .iU| .jd| .iF=>true
 |_=>false
def CM (X:fU) (f:Nat) (args:List AV) (σ:aq) (sz:Nat) (rows:List (List AV)):Prop:=
 (∀c∈rows,∀a∈c,a.plain=true)/\∃args',er (dW σ.get) 6 args=some args'/\X f args' ⟨fun _=>none,σ.next⟩ fun r σ'=>∃id,r=.own id 0 rows.length/\σ'.get id=some ⟨true,sz,rows⟩
def bV (X:fU) (draw:Bool) (hid:List Nat) (site:Nat) (f:Nat) (args:List AV) (σ:aq) (next:AV->aq->Prop):Prop:=
 (∃r,ez X f args ⟨eC hid σ.next σ.get,σ.next+1⟩ (fun r'=>r'=r)/\next r σ)∨
 (draw=false/\X f args ⟨σ.get,σ.next+1⟩ next)∨
 (hid.contains site=true/\∃sz rows,CM X f args ⟨eC hid σ.next σ.get,σ.next+1⟩ sz rows/\next (.own ⟨site,σ.next⟩ 0 rows.length) ⟨bH σ.get ⟨site,σ.next⟩ ⟨true,sz,rows⟩,σ.next⟩)
def ew (X:fU) (draw:Bool) (o:cK) (env:Env) (σ:aq) (next:AV->aq->Prop):Prop:=
 match o.op with
 | .call f args=>bV X draw o.hid o.site f (args.map (cY env)) σ next
 | .s7 x args=>match cY env x with
  | .fn f dJ=>bV X draw o.hid o.site f (args.map (cY env)++dJ) σ next
  | .tD f first=>bV X draw o.hid o.site f (first++args.map (cY env)) σ next
  |_=>False
 | .store .. | .append .. | .copy .. | .clear .. | .mw .. =>match eE o.op (cY env) σ.get ⟨o.site,σ.next⟩with
  |some (v,g)=>next v ⟨g,σ.next⟩
  |none=>False
 |_=>match dZ o.op (cY env) (eC o.hid σ.next σ.get) ⟨o.site,σ.next⟩with
  |some (v,some r)=>next v ⟨bH σ.get ⟨o.site,σ.next⟩ r,σ.next⟩
  |some (v,none)=>next v σ
  |none=>False
def wpOps (X:fU) (draw:Bool):List cK->(Env->aq->Prop)->Env->aq->Prop
 |[],K,env,σ=>K env ⟨σ.get,σ.next+1⟩
 |o::r,K,env,σ=>
  if ay o.guard env then ew X draw o env σ fun v σ'=>wpOps X draw r K (upd env o.dst v) σ'
  else wpOps X draw r K (upd env o.dst .undef) σ
def bP:List cK->(Env->aq->Prop)->Env->aq->Prop
 |[],K,env,σ=>K env ⟨σ.get,σ.next+1⟩
 |o::r,K,env,σ=>o.guard=none/\match o.op with
  | .snd x y=>match du σ.get (cY env x) (cY env y)with
   |some g=>bP r K (upd env o.dst .undef) ⟨g,σ.next⟩
   |none=>False
  | .QU x=>match dt σ.get (cY env x)with
   |some (v,g)=>bP r K (upd env o.dst v) ⟨g,σ.next⟩
   |none=>False
  |op=>match dZ op (cY env) σ.get ⟨o.site,σ.next⟩with
   |some (v,none)=>bP r K (upd env o.dst v) σ
   |_=>False
def cR (next:Env->aq->Prop) (Q:Ex->Env->aq->Prop):Ex->Env->aq->Prop
 | .normal=>next
 |e=>Q e
def aQ (id:Nat) (Q:Ex->Env->aq->Prop):Ex->Env->aq->Prop
 | .exit jQ=>if jQ=id then Q .normal else Q (.exit jQ)
 |e=>Q e
def FR (W:(Ex->Env->aq->Prop)->Env->aq->Prop) (Q:Ex->Env->aq->Prop):Nat->Env->aq->Prop
 |0=>fun _ _=>False
 |n+1=>W (cR (FR W Q n) Q)
def M6 (t s:Nat) (y:O) (env:Env) (n:Nat):Prop:=(∃len,env t=.own ⟨s,n⟩ 0 len)/\∀id o l,cY env y=.own id o l->id.cW≠n
def dL (X:fU):VC->(Ex->Env->aq->Prop)->Env->aq->Prop
 | .skip,Q=>Q .normal
 | .jo draw ops,Q=>wpOps X draw ops (Q .normal)
 | .seq a b,Q=>dL X a (cR (dL X b Q) Q)
 | .cond c x y,Q=>fun env σ=>match cY env c with
  | .bool b=>if b then dL X x Q env σ else dL X y Q env σ
  |_=>False
 | .block id c,Q=>dL X c (aQ id Q)
 | .loop c,Q=>fun env σ=>∃n,FR (dL X c) Q n env σ
 | .exit id,Q=>Q (.exit id)
 | .ret,Q=>Q .ret
 | .one o c,Q=>fun env σ=>if ay o.guard env then ew X false o env σ fun v σ'=>dL X c Q (upd env o.dst v) σ' else dL X c Q (upd env o.dst .undef) σ
 | .both a b,Q=>fun env σ=>dL X a Q env σ/\dL X b Q env σ
 | .loc t s y c,Q=>fun env σ=>M6 t s y env σ.next/\dL X c Q env σ
 | .Pq ops,Q=>bP ops (Q .normal)
def jV (env:Env) (g:Rows):pq->Option AV
 | .tmp t=>some (env t)
 | .cell agg n t=>ld g agg n (env t)
def gR (env:Env) (g:Rows):List pq->Option (List AV)
 |[]=>some []
 |r::l=>(jV env g r).bind fun v=>(gR env g l).map (v::·)
def iL:List AV->AV
 |[v]=>v
 |l=>.fK l
def bJ (args:List AV):Env:=fun t=>args.getD t .undef
def l9 (res:List pq) (K:AV->aq->Prop):Ex->Env->aq->Prop
 | .exit _,_,_=>False
 |_,env,σ=>∃vs,gR env σ.get res=some vs/\K (iL vs) σ
inductive jK (P:Program) (w:World) (D:Nat->Prop):AV->Value->Prop
 |int (k n):jK P w D (.int k n) (.int k n)
 |bool (b):jK P w D (.bool b) (.bool b)
 |str (s):jK P w D (.str s) (.string s)
 |bB:jK P w D .bB (.slice none 0 0)
 |gO:jK P w D .gO (.pointer none)
 |iU:jK P w D .iU .nilFunc
 |AU (a c):c<=maxLen->jK P w D (.sl []) (.slice a 0 c)
 |sl (rows b o n c sz) (vs:Nat->Nat->Value):rows.length=n->n<=c->c<=maxLen->D b->(∀cs∈rows,cs.length=sz)->(∀cs∈rows,∀a∈cs,a.cell=true)->
   (∀i j,i<n->j<sz->w.cell? ⟨b,o+(i*sz+j),none⟩=some (vs i j))->
   (∀i j cs a,rows[i]? =some cs->cs[j]? =some a->jK P w D a (vs i j))->jK P w D (.sl rows) (.slice (some ⟨b,o,none⟩) n c)
 |eT (cs b o) (vs:Nat->Value):D b->(∀a∈cs,a.cell=true)->(∀j,j<cs.length->w.cell? ⟨b,o+j,none⟩=some (vs j))->
   (∀j a,cs[j]? =some a->jK P w D a (vs j))->jK P w D (.eT cs) (.pointer (some ⟨b,o,none⟩))
 |agg (cs) (vs:Array Value) (f:Nat->Value):vs.size=cs.length->(∀a∈cs,a.cell=true)->(∀j,j<cs.length->vs[j]? =some (f j))->(∀j a,cs[j]? =some a->jK P w D a (f j))->jK P w D (.agg cs) (.agg vs)
 |fn (f dJ) (vs:Array Value) (g:Nat->Value):fW P f=true->vs.size=dJ.length->(∀j,j<dJ.length->vs[j]? =some (g j))->(∀j a,dJ[j]? =some a->jK P w D a (g j))->jK P w D (.fn f dJ) (.func (.func f) #[] vs)
 |jd:jK P w D .jd (.map none)
 |iF:jK P w D .iF .nilIface
 |err (g t s a c ty):D g->w.cell? ⟨g,0,none⟩=some (.iface t (.pointer (some a)))->D a.block->w.heap[a.block]? =some (.cells c ty (0,0))->w.cell? a=some (.string s)->jK P w D (.err g t s) (.iface t (.pointer (some a)))
inductive BK where
 |map (m:MK)
 |chan (cap:Nat)
structure rZ where
 b:Nat
 sz:Nat
 C:Nat
 k:Option BK
abbrev Names:=Id->Option rZ
inductive dF (P:Program) (w:World) (D:Nat->Prop) (ι:Names):AV->Value->Prop
 |eG (a v):jK P w D a v->dF P w D ι a v
 |own (id off len o cap B):ι id=some B->B.k=none->len<=cap->(cap=0∨o=off*B.sz)->(off+cap)*B.sz<=B.C->cap<=maxLen->dF P w D ι (.own id off len) (.slice (some ⟨B.b,o,none⟩) len cap)
 |ptr (id i off B):ι id=some B->B.k=none->dF P w D ι (.ptr id i off) (.pointer (some ⟨B.b,i*B.sz+off,none⟩))
 |agg (cs) (vs:Array Value) (f:Nat->Value):vs.size=cs.length->(∀a∈cs,a.cell=true)->(∀j,j<cs.length->vs[j]? =some (f j))->(∀j a,cs[j]? =some a->dF P w D ι a (f j))->dF P w D ι (.agg cs) (.agg vs)
 |fK (cs) (vs:Array Value) (f:Nat->Value):vs.size=cs.length->(∀j,j<cs.length->vs[j]? =some (f j))->(∀j a,cs[j]? =some a->dF P w D ι a (f j))->dF P w D ι (.fK cs) (.tuple vs)
 |fn (f dJ) (vs:Array Value) (g:Nat->Value):fW P f=true->vs.size=dJ.length->(∀j,j<dJ.length->vs[j]? =some (g j))->(∀j a,dJ[j]? =some a->dF P w D ι a (g j))->dF P w D ι (.fn f dJ) (.func (.func f) #[] vs)
 |qF (id c B):ι id=some B->B.k=some (.chan c)->dF P w D ι (.qF id) (.chan (some B.b))
 |map (id m B):ι id=some B->B.k=some (.map m)->dF P w D ι (.map id m) (.map (some B.b))
 |tD (f dJ) (vs:Array Value) (g:Nat->Value):fW P f=true->vs.size=dJ.length->(∀j,j<dJ.length->vs[j]? =some (g j))->(∀j a,dJ[j]? =some a->dF P w D ι a (g j))->dF P w D ι (.tD f dJ) (.func (.func f) vs #[])
variable {P:Program} {w w':World} {D D':Nat->Prop} {ι ι':Names}
theorem jK.frame (hD:∀b,D b->w'.heap[b]? =w.heap[b]?) (hs:∀b,D b->D' b) {a:AV} {v:Value} (h:jK P w D a v):jK P w' D' a v:=by
 induction h with
 |int k n=>exact .int k n
 |bool b=>exact .bool b
 |str s=>exact .str s
 |bB=>exact .bB
 |gO=>exact .gO
 |iU=>exact .iU
 |jd=>exact .jd
 |iF=>exact .iF
 |err g t s a c ty h1 h2 h3 h4 h5=>exact .err g t s a c ty (hs g h1) ((World.cell?_of_block (hD g h1)).trans h2) (hs _ h3) ((hD _ h3).trans h4) ((World.cell?_of_block (hD _ h3)).trans h5)
 |AU a c h=>exact .AU a c h
 |sl rows b o n c sz vs h1 h2 h3 h4 h5 h5' h6 _ ih=>exact .sl rows b o n c sz vs h1 h2 h3 (hs b h4) h5 h5' (fun i j hi hj=>(World.cell?_of_block (hD b h4)).trans (h6 i j hi hj)) ih
 |eT cs b o vs h1 h1' h2 _ ih=>exact .eT cs b o vs (hs b h1) h1' (fun j hj=>(World.cell?_of_block (hD b h1)).trans (h2 j hj)) ih
 |agg cs vs f h1 h2 h3 _ ih=>exact .agg cs vs f h1 h2 h3 ih
 |fn f dJ vs g h1 h2 h3 _ ih=>exact .fn f dJ vs g h1 h2 h3 ih
theorem dF.frame (hD:∀b,D b->w'.heap[b]? =w.heap[b]?) (hs:∀b,D b->D' b) (hι:∀id B,ι id=some B->ι' id=some B) {a:AV} {v:Value} (h:dF P w D ι a v):dF P w' D' ι' a v:=by
 induction h with
 |eG a v h=>exact .eG a v (h.frame hD hs)
 |map id m B h1 h2=>exact .map id m B (hι _ _ h1) h2
 |qF id c B h1 h2=>exact .qF id c B (hι _ _ h1) h2
 |own id off len o cap B h1 h2 h3 h4 h5 h6=>exact .own id off len o cap B (hι _ _ h1) h2 h3 h4 h5 h6
 |ptr id i off B h1 h2=>exact .ptr id i off B (hι _ _ h1) h2
 |agg cs vs f h1 h2 h3 _ ih=>exact .agg cs vs f h1 h2 h3 ih
 |fK cs vs f h1 h2 _ ih=>exact .fK cs vs f h1 h2 ih
 |fn f dJ vs g h1 h2 h3 _ ih=>exact .fn f dJ vs g h1 h2 h3 ih
 |tD f dJ vs g h1 h2 h3 _ ih=>exact .tD f dJ vs g h1 h2 h3 ih
theorem dF.undef:dF P w D ι .undef Go.undef:=.fK [] #[] (fun _=>Go.undef) rfl (fun j hj=>by simp at hj) (fun j a h=>by simp at h)
theorem wW (c:K):dF P w D ι c.av c.val:=by
 cases c with
 |int k n=>exact .eG _ _ (.int k n)
 |bool b=>exact .eG _ _ (.bool b)
 |str l=>exact .eG _ _ (.str _)
 |bB=>exact .eG _ _ .bB
 |gO=>exact .eG _ _ .gO
 |iU=>exact .eG _ _ .iU
 |jd=>exact .eG _ _ .jd
 |iF=>exact .eG _ _ .iF
theorem K.mv (c:K):c.av.cell=true:=by cases c<;>rfl
theorem Aj {v:Value} {c:K} (h:Ha v=some c):v=c.val:=by
 unfold Ha at h
 split at h<;>simp at h<;>subst h<;>rfl
theorem dF.Bn {a:AV} {v:Value} (h:dF P w D ι a v) (hc:a.cell=true):v.cells= #[v]/\(∀vs,v≠.agg vs)/\(∀vs,v≠.tuple vs):=by
 cases h with
 |eG a v h=>cases h<;>simp_all [AV.cell,Value.cells]
 |own=>simp[Value.cells]
 |map=>simp[Value.cells]
 |qF=>simp[Value.cells]
 |ptr=>simp[Value.cells]
 |agg=>simp[AV.cell]at hc
 |fK=>simp[AV.cell]at hc
 |fn=>simp[Value.cells]
 |tD=>simp[Value.cells]
theorem dF.cells {a:AV} {v:Value} (h:dF P w D ι a v) (ha:a.cells.all AV.cell=true):v.cells.size=a.cells.length/\∃f:Nat->Value,(∀j,j<a.cells.length->v.cells[j]? =some (f j))/\∀j x,a.cells[j]? =some x->dF P w D ι x (f j):=by
 have one:∀(a:AV) (v:Value),a.cell=true->a.cells=[a]->dF P w D ι a v->v.cells.size=a.cells.length/\∃f:Nat->Value,(∀j,j<a.cells.length->v.cells[j]? =some (f j))/\∀j x,a.cells[j]? =some x->dF P w D ι x (f j):=by
  intro a v hc eb h
  obtain⟨h1,_,_⟩:=h.Bn hc
  rw[h1,eb]
  refine⟨rfl,fun _=>v,fun j hj=>?_,fun j x hx=>?_⟩
  ·have:j=0:=by simp at hj;omega
   subst this;rfl
  ·cases j with
   |zero=>simp at hx;subst hx;exact h
   |succ j=>simp at hx
 cases h with
 |eG a v h=>
  cases h with
  |agg cs vs f h1 h2 h3 h4=>exact⟨h1,f,h3,fun j x hx=>.eG _ _ (h4 j x hx)⟩
  |_=>exact one _ _ rfl rfl (.eG _ _ (by constructor<;>assumption))
 |own id off len o cap B h1 h2 h3 h4 h5 h6=>exact one _ _ rfl rfl (.own id off len o cap B h1 h2 h3 h4 h5 h6)
 |ptr id i off B h1 h2=>exact one _ _ rfl rfl (.ptr id i off B h1 h2)
 |map id m B h1 h2=>exact one _ _ rfl rfl (.map id m B h1 h2)
 |qF id c B h1 h2=>exact one _ _ rfl rfl (.qF id c B h1 h2)
 |agg cs vs f h1 h2 h3 h4=>exact⟨h1,f,h3,h4⟩
 |fK cs vs f h1 h2 h3=>simp[AV.cells,AV.cell]at ha
 |fn f dJ vs g h1 h2 h3 h4=>exact one _ _ rfl rfl (.fn f dJ vs g h1 h2 h3 h4)
 |tD f dJ vs g h1 h2 h3 h4=>exact one _ _ rfl rfl (.tD f dJ vs g h1 h2 h3 h4)
structure j6 (P:Program) (w:World) (D:Nat->Prop) (ι:Names) (B:rZ) (r:Row):Prop where
 sz:B.sz=r.sz
 rU:∃cells T,w.heap[B.b]? =some (.cells cells T (0,0))/\cells.size=B.C
 fits:r.rows.length*r.sz<=B.C
 len:∀cs∈r.rows,cs.length=r.sz
 flat:∀cs∈r.rows,∀a∈cs,a.cell=true
 at_:∀i j cs a,r.rows[i]? =some cs->cs[j]? =some a->∃v,w.cell? ⟨B.b,i*r.sz+j,none⟩=some v/\dF P w D ι a v
def E4 (es:Array MapEntry) (clock:Nat):Prop:=(∀x∈es.toList,x.born<clock)/\(es.toList.map (·.born)).Nodup
def NZ (P:Program) (w:World) (D:Nat->Prop) (ι:Names) (B:rZ) (m:MK) (r:Row):Prop:=
 ∃(es:Array MapEntry) (clock:Nat),w.heap[B.b]? =some (.map es clock)/\es.size=r.rows.length/\((∀cs∈r.rows,cs.length=m.ks+1)/\E4 es clock)/\
  ∀(i:Nat) (cs:List AV),r.rows[i]? =some cs->∃(e:MapEntry) (kv vv:AV),es[i]? =some e/\part m.ka m.ks cs=some kv/\cs[m.ks]? =some vv/\dF P w D ι kv e.key/\dF P w D ι vv e.val
def Iu (P:Program) (w:World) (D:Nat->Prop) (ι:Names) (B:rZ) (c:Nat) (r:Row):Prop:=
 ∃(buf:Array Value) (s q:Nat),w.heap[B.b]? =some (.chan c buf false s q false)/\buf.size=r.rows.length/\
  ∀(i:Nat) (cs:List AV),r.rows[i]? =some cs->∃(a:AV) (u:Value),cs=[a]/\buf[i]? =some u/\dF P w D ι a u
structure gD (P:Program) (w:World) (D:Nat->Prop) (ι:Names) (B:rZ) (r:Row):Prop where
 sz:B.sz=r.sz
 flat:∀cs∈r.rows,∀a∈cs,a.cell=true
 row:B.k=none->j6 P w D ι B r
 map:∀m,B.k=some (.map m)->r.sz=m.j5/\NZ P w D ι B m r
 chan:∀c,B.k=some (.chan c)->r.sz=qH+c/\Iu P w D ι B c r
theorem j6.obj {B:rZ} {r:Row} (R:j6 P w D ι B r) (h:B.k=none):gD P w D ι B r:=⟨R.sz,R.flat,fun _=>R,fun m hm=>(by rw[h]at hm;cases hm),fun m hm=>by rw[h]at hm;cases hm⟩
theorem gD.flag {B:rZ} {r:Row} (R:gD P w D ι B r) (b:Bool):gD P w D ι B {r with w:=b}:=⟨R.sz,R.flat,fun h=>⟨R.sz,(R.row h).rU,(R.row h).fits,(R.row h).len,R.flat,(R.row h).at_⟩,R.map,R.chan⟩
theorem gD.Nd {B:rZ} {r:Row} (R:gD P w D ι B r) {c:Array Value} {T:TypeId} {z:Nat×Nat} (h:w.heap[B.b]? =some (.cells c T z)):B.k=none:=by
 cases hk:B.k with
 |none=>rfl
 |some m=>
  cases m with
  |map m=>obtain⟨_,es,c,h3,_⟩:=R.map m hk;rw[h]at h3;cases h3
  |chan c=>obtain⟨_,buf,s,q,h3,_⟩:=R.chan c hk;rw[h]at h3;cases h3
theorem gD.lt {B:rZ} {r:Row} (R:gD P w D ι B r):B.b<w.heap.size:=by
 cases h:B.k with
 |none=>
  obtain⟨c,T,h3,_⟩:=(R.row h).rU
  exact(Array.getElem?_eq_some_iff.1 h3).1
 |some m=>
  cases m with
  |map m=>obtain⟨_,es,c,h3,_⟩:=R.map m h;exact(Array.getElem?_eq_some_iff.1 h3).1
  |chan c=>obtain⟨_,buf,s,q,h3,_⟩:=R.chan c h;exact(Array.getElem?_eq_some_iff.1 h3).1
structure fY (P:Program) (hs:Nat) (D:Nat->Prop) (ι:Names) (g:Rows) (w:World):Prop where
 lo:hs<=w.heap.size
 dead:∀b,D b->b<w.heap.size
 row:∀id r,g id=some r->∃B,ι id=some B/\gD P w D ι B r/\(r.w=true->hs<=B.b)/\(r.w=true->¬D B.b)
 inj:∀id jQ r r' B B',g id=some r->g jQ=some r'->r.w=true->ι id=some B->ι jQ=some B'->B.b=B'.b->id=jQ
def Used (ι:Names) (n:Nat) (U:Nat->Prop):Prop:=∀id,ι id≠none->id.cW<n∨(id.cW=n/\U id.site)
structure Step (hs:Nat) (D:Nat->Prop) (ι:Names) (w:World) (D':Nat->Prop) (ι':Names) (w':World):Prop where
 below:Below hs w w'
 xS:∀b,D b->w'.heap[b]? =w.heap[b]?
 dead:∀b,D b->D' b
 names:∀id B,ι id=some B->ι' id=some B
 new:∀b,D' b->D b∨hs<=b
theorem Step.refl (hs:Nat) (D:Nat->Prop) (ι:Names) (w:World):Step hs D ι w D ι w:=⟨Below.refl _ _,fun _ _=>rfl,fun _ h=>h,fun _ _ h=>h,fun _ h=>.inl h⟩
theorem Step.trans {hs:Nat} {D D' D'':Nat->Prop} {ι ι' UJ:Names} {w w' LM:World} (h:Step hs D ι w D' ι' w') (k:Step hs D' ι' w' D'' UJ LM):Step hs D ι w D'' UJ LM:=
 ⟨h.below.trans k.below,fun b hb=>(k.xS b (h.dead b hb)).trans (h.xS b hb),fun b hb=>k.dead b (h.dead b hb),fun id B hB=>k.names id B (h.names id B hB),fun b hb=>by
  rcases k.new b hb with hb|hb
  ·exact h.new b hb
  ·exact .inr hb⟩
theorem Step.rep {hs:Nat} {D D':Nat->Prop} {ι ι':Names} {w w':World} (h:Step hs D ι w D' ι' w') {a:AV} {v:Value} (hr:dF P w D ι a v):dF P w' D' ι' a v:=hr.frame h.xS h.dead h.names
theorem dO {k n} {v:Value} (h:dF P w D ι (.int k n) v):v=.int k n:=by
 cases h with
 |eG _ _ h=>cases h;rfl
theorem fm {b} {v:Value} (h:dF P w D ι (.bool b) v):v=.bool b:=by
 cases h with
 |eG _ _ h=>cases h;rfl
theorem fM {s} {v:Value} (h:dF P w D ι (.str s) v):v=.string s:=by
 cases h with
 |eG _ _ h=>cases h;rfl
theorem iK {v:Value} (h:dF P w D ι .bB v):v=.slice none 0 0:=by
 cases h with
 |eG _ _ h=>cases h;rfl
theorem wZ {v:Value} (h:dF P w D ι .iU v):v=.nilFunc:=by
 cases h with
 |eG _ _ h=>cases h;rfl
theorem iw {cs} {v:Value} (h:dF P w D ι (.agg cs) v):∃(vs:Array Value) (f:Nat->Value),v=.agg vs/\vs.size=cs.length/\(∀a∈cs,a.cell=true)/\(∀j,j<cs.length->vs[j]? =some (f j))/\∀j a,cs[j]? =some a->dF P w D ι a (f j):=by
 cases h with
 |eG _ _ h=>
  cases h with
  |agg cs vs f h1 h2 h3 h4=>exact⟨vs,f,rfl,h1,h2,h3,fun j a h=>.eG _ _ (h4 j a h)⟩
 |agg cs vs f h1 h2 h3 h4=>exact⟨vs,f,rfl,h1,h2,h3,h4⟩
theorem uz {cs} {v:Value} (h:dF P w D ι (.fK cs) v):∃(vs:Array Value) (f:Nat->Value),v=.tuple vs/\vs.size=cs.length/\(∀j,j<cs.length->vs[j]? =some (f j))/\∀j a,cs[j]? =some a->dF P w D ι a (f j):=by
 cases h with
 |eG _ _ h=>cases h
 |fK cs vs f h1 h2 h3=>exact⟨vs,f,rfl,h1,h2,h3⟩
theorem sK {f dJ} {v:Value} (h:dF P w D ι (.fn f dJ) v):∃(vs:Array Value) (g:Nat->Value),v=.func (.func f) #[] vs/\fW P f=true/\vs.size=dJ.length/\(∀j,j<dJ.length->vs[j]? =some (g j))/\∀j a,dJ[j]? =some a->dF P w D ι a (g j):=by
 cases h with
 |eG _ _ h=>
  cases h with
  |fn f dJ vs g h1 h2 h3 h4=>exact⟨vs,g,rfl,h1,h2,h3,fun j a h=>.eG _ _ (h4 j a h)⟩
 |fn f dJ vs g h1 h2 h3 h4=>exact⟨vs,g,rfl,h1,h2,h3,h4⟩
theorem KK {v:Value} (h:dF P w D ι .gO v):v=.pointer none:=by
 cases h with
 |eG _ _ h=>cases h;rfl
theorem CB {v:Value} (h:dF P w D ι .jd v):v=.map none:=by
 cases h with
 |eG _ _ h=>cases h;rfl
theorem wY {v:Value} (h:dF P w D ι .iF v):v=.nilIface:=by
 cases h with
 |eG _ _ h=>cases h;rfl
theorem pf {g t s} {v:Value} (h:dF P w D ι (.err g t s) v):∃a c ty,v=.iface t (.pointer (some a))/\D g/\w.cell? ⟨g,0,none⟩=some v/\D a.block/\w.heap[a.block]? =some (.cells c ty (0,0))/\w.cell? a=some (.string s):=by
 cases h with
 |eG _ _ h=>cases h with
  |err _ _ _ a c ty h1 h2 h3 h4 h5=>exact⟨a,c,ty,rfl,h1,h2,h3,h4,h5⟩
theorem Nu {f dJ} {v:Value} (h:dF P w D ι (.tD f dJ) v):∃(vs:Array Value) (g:Nat->Value),v=.func (.func f) vs #[]/\fW P f=true/\vs.size=dJ.length/\(∀j,j<dJ.length->vs[j]? =some (g j))/\∀j a,dJ[j]? =some a->dF P w D ι a (g j):=by
 cases h with
 |eG _ _ h=>cases h
 |tD f dJ vs g h1 h2 h3 h4=>exact⟨vs,g,rfl,h1,h2,h3,h4⟩
theorem iy {id off len} {v:Value} (h:dF P w D ι (.own id off len) v):∃o cap B,v=.slice (some ⟨B.b,o,none⟩) len cap/\ι id=some B/\len<=cap/\(cap=0∨o=off*B.sz)/\(off+cap)*B.sz<=B.C/\cap<=maxLen/\B.k=none:=by
 cases h with
 |eG _ _ h=>cases h
 |own id off len o cap B h1 h2 h3 h4 h5 h6=>exact⟨o,cap,B,rfl,h1,h3,h4,h5,h6,h2⟩
theorem gZ {id i off} {v:Value} (h:dF P w D ι (.ptr id i off) v):∃B,v=.pointer (some ⟨B.b,i*B.sz+off,none⟩)/\ι id=some B/\B.k=none:=by
 cases h with
 |eG _ _ h=>cases h
 |ptr id i off B h1 h2=>exact⟨B,rfl,h1,h2⟩
theorem Ns {id} {v:Value} (h:dF P w D ι (.qF id) v):∃B c,v=.chan (some B.b)/\ι id=some B/\B.k=some (.chan c):=by
 cases h with
 |eG _ _ h=>cases h
 |qF id c B h1 h2=>exact⟨B,c,rfl,h1,h2⟩
theorem Az {id m} {v:Value} (h:dF P w D ι (.map id m) v):∃B,v=.map (some B.b)/\ι id=some B/\B.k=some (.map m):=by
 cases h with
 |eG _ _ h=>cases h
 |map id m B h1 h2=>exact⟨B,rfl,h1,h2⟩
theorem kI {cs} {v:Value} (h:dF P w D ι (.eT cs) v):∃b o,∃vs:Nat->Value,v=.pointer (some ⟨b,o,none⟩)/\D b/\(∀a∈cs,a.cell=true)/\(∀j,j<cs.length->w.cell? ⟨b,o+j,none⟩=some (vs j))/\∀j a,cs[j]? =some a->jK P w D a (vs j):=by
 cases h with
 |eG _ _ h=>
  cases h with
  |eT cs b o vs h1 h2 h3 h4=>exact⟨b,o,vs,rfl,h1,h2,h3,h4⟩
theorem sL {rows} {v:Value} (h:dF P w D ι (.sl rows) v):∃A c,v=.slice A rows.length c/\rows.length<=c/\c<=maxLen/\
  (rows=[]∨∃b o sz,∃vs:Nat->Nat->Value,A=some ⟨b,o,none⟩/\D b/\(∀cs∈rows,cs.length=sz)/\(∀cs∈rows,∀a∈cs,a.cell=true)/\
   (∀i j,i<rows.length->j<sz->w.cell? ⟨b,o+(i*sz+j),none⟩=some (vs i j))/\∀i j cs a,rows[i]? =some cs->cs[j]? =some a->jK P w D a (vs i j)):=by
 cases h with
 |eG _ _ h=>
  cases h with
  |AU a c h=>exact⟨a,c,rfl,Nat.zero_le _,h,.inl rfl⟩
  |sl rows b o n c sz vs h1 h2 h3 h4 h5 h5' h6 h7=>subst h1;exact⟨_,c,rfl,h2,h3,.inr ⟨b,o,sz,vs,rfl,h4,h5,h5',h6,h7⟩⟩
inductive eY:AV->Prop
 |int (k n):eY (.int k n)
 |bool (b):eY (.bool b)
 |str (s):eY (.str s)
 |bB:eY .bB
 |gO:eY .gO
 |iU:eY .iU
 |sl (rows):rows.length<=maxLen->(∀cs∈rows,∀a∈cs,eY a)->eY (.sl rows)
 |own (id off len):eY (.own id off len)
 |ptr (id i off):eY (.ptr id i off)
 |eT (cs):(∀a∈cs,eY a)->eY (.eT cs)
 |agg (cs):(∀a∈cs,eY a)->eY (.agg cs)
 |fK (cs):(∀a∈cs,eY a)->eY (.fK cs)
 |fn (f dJ):(∀a∈dJ,eY a)->eY (.fn f dJ)
 |map (id m):eY (.map id m)
 |qF (id):eY (.qF id)
 |jd:eY .jd
 |iF:eY .iF
 |err (g t s):eY (.err g t s)
 |tD (f dJ):(∀a∈dJ,eY a)->eY (.tD f dJ)
theorem eY.len {rows:List (List AV)} (h:eY (.sl rows)):rows.length<=9223372036854775807:=by
 cases h with
 |sl _ h _=>unfold maxLen at h;omega
theorem eY.O9 {cs:List AV} (h:eY (.agg cs)) {a:AV} (ha:a∈cs):eY a:=by
 cases h with
 |agg _ h=>exact h a ha
theorem oD {l:List AV} {p:AV->Prop} (h:∀(j:Nat) (a:AV),l[j]? =some a->p a):∀a∈l,p a:=fun a ha=>by
 obtain⟨j,hj,rfl⟩:=List.getElem_of_mem ha
 exact h j _ (List.getElem?_eq_getElem hj)
theorem jK.Ka {a:AV} {v:Value} (h:jK P w D a v):eY a:=by
 induction h with
 |int k n=>exact .int k n
 |bool b=>exact .bool b
 |str s=>exact .str s
 |bB=>exact .bB
 |gO=>exact .gO
 |iU=>exact .iU
 |jd=>exact .jd
 |iF=>exact .iF
 |err g t s=>exact .err g t s
 |AU a c h=>exact .sl [] (Nat.zero_le _) (fun cs h=>by cases h)
 |sl rows b o n c sz vs h1 h2 h3 h4 h5 h5' h6 _ ih=>
  exact .sl rows ab fun cs eb a ha=>by
   obtain⟨i,hi,rfl⟩:=List.getElem_of_mem eb
   obtain⟨j,hj,rfl⟩:=List.getElem_of_mem ha
   exact ih i j _ _ (List.getElem?_eq_getElem hi) (List.getElem?_eq_getElem hj)
 |eT cs b o vs h1 h1' h2 _ ih=>exact .eT cs (oD ih)
 |agg cs vs f h1 h2 h3 _ ih=>exact .agg cs (oD ih)
 |fn f dJ vs g h1 h2 h3 _ ih=>exact .fn f dJ (oD ih)
theorem dF.Ka {a:AV} {v:Value} (h:dF P w D ι a v):eY a:=by
 induction h with
 |eG a v h=>exact h.Ka
 |own id off len o cap B=>exact .own _ _ _
 |ptr id i off B=>exact .ptr _ _ _
 |map id m B=>exact .map _ _
 |qF id c B=>exact .qF _
 |agg cs vs f h1 h2 h3 _ ih=>exact .agg cs (oD ih)
 |fK cs vs f h1 h2 _ ih=>exact .fK cs (oD ih)
 |fn f dJ vs g h1 h2 h3 _ ih=>exact .fn f dJ (oD ih)
 |tD f dJ vs g h1 h2 h3 _ ih=>exact .tD f dJ (oD ih)
end Go.Proofs.YtakkdjfmiffbfaaGreatDoor.V

namespace Go.Proofs.YtakkdjfmiffbfaaGreatDoor.V
open Go.RowKit
variable {P:Program} {w w':World} {D D':Nat->Prop} {ι ι':Names}
def db (P:Program) (w:World) (D:Nat->Prop) (ι:Names) (env:Env) (a:Act):Prop:=∀t,dF P w D ι (env t) (a.tmps.getD t undef)
theorem rf {vs:List Value} {cs:List K} (h:vs.mapM Ha=some cs):cs.length=vs.length/\∀(j:Nat) (c:K),cs[j]? =some c->vs[j]? =some c.val:=by
 induction vs generalizing cs with
 |nil=>simp at h;subst h;simp
 |cons v r ih=>
  simp only[List.mapM_cons,Option.bind_eq_bind,Option.bind_eq_some_iff]at h
  obtain⟨c,hc,mA,eb,h⟩:=h
  simp at h;subst h
  obtain⟨h1,h2⟩:=ih eb
  refine⟨by simp[h1],fun j d hd=>?_⟩
  cases j with
  |zero=>simp at hd ⊢;subst hd;exact Aj hc
  |succ j=>simp at hd ⊢;exact h2 j d hd
theorem Xw {vs:List Value} {cs:List K} (h:vs.mapM Ha=some cs):dF P w D ι (.agg (cs.map K.av)) (.agg vs.toArray):=by
 obtain⟨h1,h2⟩:=rf h
 refine .agg _ _ (fun j=>vs.getD j undef) (by simp[h1]) (fun a ha=>?_) (fun j hj=>?_) (fun j a ha=>?_)
 ·obtain⟨c,_,rfl⟩:=List.mem_map.1 ha;exact c.mv
 ·simp at hj;simp[List.getElem?_eq_getElem (show j<vs.length by omega)]
 ·simp only[List.getElem?_map,Option.map_eq_some_iff]at ha
  obtain⟨c,hc,rfl⟩:=ha
  rw[List.getD_eq_getElem?_getD,h2 j c hc];exact wW c
theorem dQ {env:Env} {a:Act} {x:Operand} {y:O} (E:db P w D ι env a) (h:cO P x=some y):dF P w D ι (cY env y) (a.eval x):=by
 unfold cO at h
 split at h
 ·simp at h;subst h;exact E _
 ·simp only[Option.map_eq_some_iff]at h
  obtain⟨cs,eb,rfl⟩:=h
  have:=Xw (P:=P) (w:=w) (D:=D) (ι:=ι) eb
  simpa[Act.eval,cY]using this
 ·simp only[Option.map_eq_some_iff]at h
  obtain⟨c,hc,rfl⟩:=h
  simp only[Act.eval,cY]
  rw[Aj hc];exact wW c
 ·simp at h
 ·split at h
  ·rename_i hc
   simp at h;subst h
   simp only[Act.eval,cY]
   exact .fn _ _ _ (fun _=>undef) hc rfl (fun j hj=>by simp at hj) (fun j a h=>by simp at h)
  ·simp at h
def nK (P:Program) (a:Act) (o:Oper) (w:World) (D:Nat->Prop) (ι:Names) (v:AV):Prop:=∃u,(execOp a.eval o).run P w=.ok (.value u) w/\dF P w D ι v u
section
variable {g:Rows} {hs:Nat} {env:Env} {a:Act} {o:Oper} {id:Id} {v:AV}
theorem OV {x:Operand} {y:O} (E:db P w D ι env a) (ho:o.op=.move x∨o.op=.assign x) (hx:cO P x=some y):nK P a o w D ι (cY env y):=by
 refine⟨a.eval x,?_,dQ E hx⟩
 rcases ho with h|h<;>simp[execOp,h,go_sem]
theorem Rq {c x y:Operand} {c' x' y':O} (E:db P w D ι env a) (ho:o.op=.pick c x y) (hc:cO P c=some c') (hx:cO P x=some x') (hy:cO P y=some y') (hv:cE (cY env c') (cY env x') (cY env y')=some v):nK P a o w D ι v:=by
 unfold cE at hv
 split at hv
 ·rename_i b hb
  simp at hv;subst hv
  have h1:=fm (hb▸dQ E hc)
  refine⟨if b then a.eval x else a.eval y,by simp only[execOp,ho,h1,asBool];rfl,?_⟩
  cases b
  ·exact dQ E hy
  ·exact dQ E hx
 ·simp at hv
theorem Ux {op:BinOp} {x y:Operand} {x' y':O} {t yt:TypeId} (E:db P w D ι env a) (ho:o.op=.binOp op t x y yt) (he:op≠.eql) (hn:op≠.neq) (hx:cO P x=some x') (hy:cO P y=some y') (hv:dj op (cY env x') (cY env y')=some v):nK P a o w D ι v:=by
 unfold dj at hv
 split at hv
 ·rename_i k n k' m hb sq
  split at hv
  ·rename_i hk
   subst hk
   have h1:=dO (hb▸dQ E hx)
   have h2:=dO (sq▸dQ E hy)
   have key:∀u,(binOp op t (.int k n) (.int k m)).run P w=.ok u w->(execOp a.eval o).run P w=.ok (.value u) w:=fun u hu=>by
    have e0:eqGuard op t x y (.int k n) (.int k m)=pure ():=by unfold eqGuard;cases op<;>rfl
    simp only[execOp,ho,h1,h2,e0]
    simp[go_sem,hu]
   cases op<;>simp only[cX]at hv<;>(try(simp at hv;done))<;>(try split at hv)<;>(try(simp at hv;done))<;>simp only[Option.some.injEq]at hv<;>subst hv<;>
    (refine⟨_,key _ (by simp only[binOp,ne_eq,not_true_eq_false,if_false,Op.intArith,Op.intDiv,Op.intBits,Op.intCmp, *];rfl),?_⟩)<;>
    first
     |exact .eG _ _ (.int _ _)
     |exact .eG _ _ (.bool _)
  ·simp at hv
 ·simp at hv
theorem Rb {op:BinOp} {x y:Operand} {x' y':O} {t yt:TypeId} (E:db P w D ι env a) (ho:o.op=.binOp op t x y yt) (he:op≠.eql) (hn:op≠.neq) (hx:cO P x=some x') (hy:cO P y=some y') (hv:cF op (cY env x') (cY env y')=some v):nK P a o w D ι v:=by
 unfold cF at hv
 split at hv
 ·rename_i n m hb sq
  have h1:=fM (hb▸dQ E hx)
  have h2:=fM (sq▸dQ E hy)
  cases op<;>simp only[dx]at hv<;>(try(simp at hv;done))
  case add=>
   split at hv
   ·rename_i hl
    simp only[Option.some.injEq]at hv;subst hv
    exact⟨_,by simp only[execOp,ho,h1,h2];simp[eqGuard,binOp,go_sem];exact hl,.eG _ _ (.str _)⟩
   ·simp at hv
  all_goals
   simp only[Option.some.injEq]at hv;subst hv
   exact⟨_,by simp only[execOp,ho,h1,h2];simp[eqGuard,binOp,Op.stringOp,go_sem],.eG _ _ (.bool _)⟩
 ·simp at hv
theorem F3 (n m:ByteArray):(n.toList==m.toList)=decide (n=m):=by
 rw[ByteArray.toList_eq,ByteArray.toList_eq]
 by_cases h:n=m
 ·subst h;simp
 ·have:n.data.toList≠m.data.toList:=fun he=>h (ByteArray.ext (Array.ext' he))
  rw[decide_eq_false h];exact beq_eq_false_iff_ne.2 this
theorem ph {t:TypeId} (h:fD P t=some .tB):P.underlying t=some .bool:=by unfold fD at h;split at h<;>simp_all
theorem pj {t:TypeId} (h:fD P t=some .tI):∃k,P.underlying t=some (.int k):=by unfold fD at h;split at h<;>simp_all
theorem pk {t:TypeId} (h:fD P t=some .tS):P.underlying t=some .string:=by unfold fD at h;split at h<;>simp_all
theorem rF {d:Nat} {t:TypeId} {s:TS} {x y:AV} {u u':Value} {b:Bool} (hx:dF P w D ι x u) (hy:dF P w D ι y u') (hv:eA s x y=some b) (ht:fD P t=some s):(Op.equalIn (d+1) t u u').run P w=.ok b w:=by
 unfold eA at hv
 split at hv
 ·rename_i k n k' m
  split at hv
  ·rename_i hk
   subst hk
   simp at hv;subst hv
   obtain⟨q,hq⟩:=pj ht
   rw[dO hx,dO hy,run_equalIn_int _ _ _ _ _ _ _ hq];rfl
  ·simp at hv
 ·simp at hv;subst hv
  rw[fm hx,fm hy,run_equalIn_bool' _ _ _ _ _ (ph ht)]
 ·simp at hv;subst hv
  rw[fM hx,fM hy,run_equalIn_string _ _ _ _ _ (pk ht),F3]
 ·simp at hv
def fo (P:Program) (w:World) (D:Nat->Prop) (ι:Names) (xs:List AV) (vs:Array Value):Prop:=vs.size=xs.length/\∀(j:Nat) (a:AV),xs[j]? =some a->∃u,vs[j]? =some u/\dF P w D ι a u
theorem fo.part {xs:List AV} {vs:Array Value} (h:fo P w D ι xs vs) (off n:Nat) (hn:off+n<=xs.length):fo P w D ι ((xs.drop off).take n) (vs.extract off (off+n)):=by
 refine⟨by simp[h.1];omega,fun j a ha=>?_⟩
 rw[List.getElem?_take]at ha
 split at ha
 ·rename_i hj
  rw[List.getElem?_drop]at ha
  obtain⟨u,h1,h2⟩:=h.2 _ _ ha
  refine⟨u,?_,h2⟩
  rw[Array.getElem?_extract]
  rw[if_pos (by rw[h.1];omega),h1]
 ·simp at ha
theorem qK:∀{ts:List TS} {xs ys:List AV} {b:Bool},ed ts xs ys=some b->xs.length=ts.length/\ys.length=ts.length
 |[],[],[],_,_=>⟨rfl,rfl⟩
 |t::ts,x::xs,y::ys,b,h=>by
  unfold ed at h
  split at h
  ·rename_i c d h1 h2
   have:=qK h2
   simp[this.1,this.2]
  ·simp at h
 |[],[],_::_,_,h=>by simp[ed]at h
 |[],_::_,_,_,h=>by simp[ed]at h
 |_::_,[],_,_,h=>by simp[ed]at h
 |_::_,_::_,[],_,h=>by simp[ed]at h
theorem Fk:∀{ts us:List TS} {xs ys:List AV} {b:Bool},ed (ts++us) xs ys=some b->∃c d,ed ts (xs.take ts.length) (ys.take ts.length)=some c/\ed us (xs.drop ts.length) (ys.drop ts.length)=some d/\b=(c&&d)
 |[],us,xs,ys,b,h=>⟨true,b,by simp[ed],by simpa using h,by simp⟩
 |t::ts,us,x::xs,y::ys,b,h=>by
  simp only[List.cons_append]at h
  unfold ed at h
  split at h
  ·rename_i c d h1 h2
   obtain⟨c',d',h3,h4,rfl⟩:=Fk h2
   simp at h;subst h
   exact⟨c&&c',d',by simp[ed,h1,h3],by simpa using h4,by simp[Bool.and_assoc]⟩
  ·simp at h
 |t::ts,us,[],ys,b,h=>by simp[ed]at h
 |t::ts,us,x::xs,[],b,h=>by simp[ed]at h
theorem mb {t:TypeId} {vs:Array Value} {off:Nat} {u:Value} (ha:lN P t=some false) (hu:vs[off]? =some u):(Go.part t vs off).run P w=.ok u w:=by
 unfold lN at ha
 have hi:(isAgg t).run P w=.ok false w:=by
  split at ha<;>simp at ha
  rename_i d h1 h2 hd
  simp only[isAgg,Sem.run_bind,run_underlying hd,Result.andThen_ok]
  cases d<;>simp_all
 simp[Go.part,hi,hu]
theorem sM {t:TypeId} {b:Bool} (ha:lN P t=some b):(isAgg t).run P w=.ok b w:=by
 unfold lN at ha
 split at ha<;>simp at ha<;>subst ha<;>rename_i hd<;>simp only[isAgg,Sem.run_bind,run_underlying hd,Result.andThen_ok]<;>(try simp)
theorem run_sizeOf {t:TypeId} {n:Nat} (h:ep P t=some n):(sizeOf t).run P w=.ok n w:=by
 unfold ep at h
 simp only[Option.map_eq_some_iff]at h
 obtain⟨i,hi,rfl⟩:=h
 simp[sizeOf,typeInfo,hi]
theorem pg {t:TypeId} {vs:Array Value} {off n:Nat} (ha:lN P t=some true) (hn:ep P t=some n):(Go.part t vs off).run P w=.ok (.agg (vs.extract off (off+n))) w:=by
 simp[Go.part,sM ha,run_sizeOf hn]
theorem Jl (d off:Nat):eM P (d+1) off []=some []:=rfl
theorem yp (d off:Nat) (f:Field) (r:List Field):eM P (d+1) off (f::r)=(if f.offset=off/\f.name≠ "_" then
   match fD P f.type with
   |some t=>if lN P f.type=some false then(eM P (d+1) (off+1) r).map (t::·)else none
   |none=>match P.underlying f.type with
    |some (.struct fs)=>if !P.stoodInHeld f.type then match eM P d 0 fs.toList with
     |some ts=>if ep P f.type=some ts.length/\ts≠[]then(eM P (d+1) (off+ts.length) r).map (ts++·)else none
     |none=>none else none
    |_=>none
  else none):=rfl
theorem rE:∀(d:Nat) (fs:List Field) (off:Nat) (ts:List TS),eM P d off fs=some ts->∀(N:Nat) (_:d<=N) (xs ys:List AV) (vs us:Array Value) (b:Bool),fo P w D ι xs vs->fo P w D ι ys us->
  ed ts ((xs.drop off).take ts.length) ((ys.drop off).take ts.length)=some b->(Op.eqFields (N+1) vs us fs).run P w=.ok b w:=by
 intro d
 induction d with
 |zero=>
  intro fs off ts hf N _ xs ys vs us b _ _ he
  cases fs with
  |nil=>simp[eM]at hf;subst hf;simp[ed]at he;subst he;simp[Op.eqFields]
  |cons f r=>simp[eM]at hf
 |succ d ihd=>
  intro fs
  induction fs with
  |nil=>
   intro off ts hf N _ xs ys vs us b _ _ he
   rw[Jl]at hf;simp at hf;subst hf;simp[ed]at he;subst he;simp[Op.eqFields]
  |cons f r ih=>
   intro off ts hf N hN xs ys vs us b hx hy he
   rw[yp]at hf
   split at hf
   ·rename_i hcond
    obtain⟨ho,ig⟩:=hcond
    split at hf
    ·rename_i s hs
     split at hf
     ·rename_i tn
      simp only[Option.map_eq_some_iff]at hf
      obtain⟨LL,hr,rfl⟩:=hf
      obtain⟨l1,l2⟩:=qK he
      simp only[List.length_cons,List.length_take,List.length_drop]at l1 l2
      have Il:off<xs.length:=ab
      have hyo:off<ys.length:=ab
      rw[List.drop_eq_getElem_cons Il,List.drop_eq_getElem_cons hyo,List.length_cons,List.take_succ_cons,List.take_succ_cons]at he
      unfold ed at he
      split at he
      ·rename_i c d' h1 h2
       simp at he;subst he
       obtain⟨u,hu,ru⟩:=hx.2 off _ (List.getElem?_eq_getElem Il)
       obtain⟨u',C1,ru'⟩:=hy.2 off _ (List.getElem?_eq_getElem hyo)
       have:=ih (off+1) LL hr N hN xs ys vs us d' hx hy h2
       simp only[Op.eqFields,if_pos ig,Sem.run_bind,ho,mb tn hu,mb tn C1,Result.andThen_ok,rF ru ru' h1 hs,Sem.run_ite]
       cases c<;>simp[this]
      ·simp at he
     ·simp at hf
    ·split at hf
     ·rename_i fs' qR
      split at hf
      ·rename_i ee
       split at hf
       ·rename_i ts1 hts1
        split at hf
        ·rename_i e8
         simp only[Option.map_eq_some_iff]at hf
         obtain⟨LL,hr,rfl⟩:=hf
         obtain⟨c,d',h1,h2,rfl⟩:=Fk he
         obtain⟨l1,l2⟩:=qK he
         simp only[List.length_append,List.length_take,List.length_drop]at l1 l2
         have tn:lN P f.type=some true:=by simp[lN,qR]
         have kq:0<ts1.length:=List.length_pos_iff.2 e8.2
         have MO:off+ts1.length<=xs.length:=ab
         have VA:off+ts1.length<=ys.length:=ab
         rw[List.drop_take,List.drop_drop,List.drop_take,List.drop_drop]at h2
         rw[List.take_take,List.take_take]at h1
         simp only[List.length_append]at h1 h2
         rw[Nat.min_eq_left ab]at h1
         have e2:ts1.length+LL.length-ts1.length=LL.length:=ab
         rw[e2]at h2
         have:=ih (off+ts1.length) LL hr N hN xs ys vs us d' hx hy h2
         have iO:=ihd fs'.toList 0 ts1 hts1 (N-1) ab _ _ _ _ c (hx.part off ts1.length MO) (hy.part off ts1.length VA) (by simpa[List.take_take]using h1)
         have hN':N-1+1=N:=ab
         rw[hN']at iO
         have JE:P.fieldsOf f.type=fs':=by simp[Program.fieldsOf,qR]
         simp only[Op.eqFields,if_pos ig,Sem.run_bind,ho,pg tn e8.1,Result.andThen_ok,Sem.run_ite]
         rw[run_equalIn_struct w N f.type _ _ (by rw[JE];exact qR) (by simpa using ee),JE,iO]
         cases c<;>simp[this]
        ·simp at hf
       ·simp at hf
      ·simp at hf
     ·simp at hf
   ·simp at hf
theorem UB {x y:Operand} {x' y':O} {t yt:TypeId} {neg:Bool} {s:TS} {b:Bool} (E:db P w D ι env a) (ho:o.op=.binOp (if neg then .neq else .eql) t x y yt) (hs:fD P t=some s) (hx:cO P x=some x') (hy:cO P y=some y')
  (hv:eA s (cY env x') (cY env y')=some b):nK P a o w D ι (.bool (cQ neg b)):=by
 have rx:=dQ E hx
 have ry:=dQ E hy
 refine⟨.bool (cQ neg b),?_,.eG _ _ (.bool _)⟩
 have e0:(eqGuard (if neg then .neq else .eql) t x y (a.eval x) (a.eval y)).run P w=.ok () w:=by
  unfold eA at hv
  split at hv
  ·rename_i k n k' m h1 h2
   rw[h1]at rx;rw[h2]at ry
   rw[dO rx,dO ry];unfold eqGuard;cases neg<;>simp
  ·rename_i n m h1 h2
   rw[h1]at rx;rw[h2]at ry
   rw[fm rx,fm ry];unfold eqGuard;cases neg<;>simp
  ·rename_i n m h1 h2
   rw[h1]at rx;rw[h2]at ry
   rw[fM rx,fM ry];unfold eqGuard;cases neg<;>simp
  ·simp at hv
 have e1:(binOp (if neg then .neq else .eql) t (a.eval x) (a.eval y)).run P w=.ok (.bool (cQ neg b)) w:=by
  have q:=rF (d:=9999) rx ry hv hs
  unfold eA at hv
  split at hv
  ·rename_i k n k' m h1 h2
   split at hv
   ·rename_i hk
    subst hk
    simp at hv;subst hv
    rw[h1]at rx;rw[h2]at ry
    rw[dO rx,dO ry]
    cases neg<;>simp only[binOp,ne_eq,not_true_eq_false,if_false,Op.intCmp,cQ,if_true,Bool.false_eq_true]<;>simp[bne]<;>rfl
   ·simp at hv
  ·rename_i n m h1 h2
   rw[h1]at rx;rw[h2]at ry
   rw[fm rx,fm ry]at q ⊢
   cases neg<;>simp only[binOp,cQ,if_true,Bool.false_eq_true,if_false,Sem.run_bind]<;>simp[Op.equal,Op.maxDepth,q]
  ·rename_i n m h1 h2
   simp at hv;subst hv
   rw[h1]at rx;rw[h2]at ry
   rw[fM rx,fM ry]
   cases neg<;>simp[binOp,Op.stringOp,cQ,F3]
  ·simp at hv
 simp only[execOp,ho,Sem.run_bind,e0,e1,Result.andThen_ok,Sem.run_pure]
theorem Uz {x y:Operand} {x' y':O} {t yt:TypeId} {neg:Bool} {ts:List TS} {fs:Array Field} {xs ys:List AV} {b:Bool} (E:db P w D ι env a) (ho:o.op=.binOp (if neg then .neq else .eql) t x y yt) (qR:P.underlying t=some (.struct fs)) (ee:P.stoodInHeld t=false) (MA:P.eqGuardType P.depth t=false)
  (tx:eM P 4 0 fs.toList=some ts) (hx:cO P x=some x') (hy:cO P y=some y') (h1:cY env x'=.agg xs) (h2:cY env y'=.agg ys)
  (hv:ed ts xs ys=some b):nK P a o w D ι (.bool (cQ neg b)):=by
 obtain⟨vs,f,rx,n1,_,f1,r1⟩:=iw (h1▸dQ E hx)
 obtain⟨us,f',ry,n2,_,f2,r2⟩:=iw (h2▸dQ E hy)
 refine⟨.bool (cQ neg b),?_,.eG _ _ (.bool _)⟩
 obtain⟨l1,l2⟩:=qK hv
 have L:∀(xs:List AV) (vs:Array Value) (f:Nat->Value),vs.size=xs.length->(∀j,j<xs.length->vs[j]? =some (f j))->(∀j a,xs[j]? =some a->dF P w D ι a (f j))->fo P w D ι xs vs:=fun xs vs f h1 h2 h3=>
  ⟨h1,fun j a ha=>⟨f j,h2 j (List.getElem?_eq_some_iff.1 ha).1,h3 j a ha⟩⟩
 have q:=rE (w:=w) 4 fs.toList 0 ts tx 9998 ab xs ys vs us b (L _ _ _ n1 f1 r1) (L _ _ _ n2 f2 r2) (by simpa[List.take_of_length_le,l1,l2]using hv)
 have JE:P.fieldsOf t=fs:=by simp[Program.fieldsOf,qR]
 have q2:(Op.equal t (.agg vs) (.agg us)).run P w=.ok b w:=by
  unfold Op.equal
  rw[show Op.maxDepth=9999+1 from rfl,run_equalIn_struct w 9999 t _ _ (by rw[JE];exact qR) ee,JE,q]
 simp only[execOp,ho,Sem.run_bind,rx,ry,run_eqGuard_agg w _ _ _ _ _ _ MA,Result.andThen_ok]
 cases neg<;>simp[binOp,q2,cQ]
theorem Rf {x:Operand} {x':O} {t yt e:TypeId} {neg:Bool} {b:Bool} (E:db P w D ι env a) (ho:o.op=.binOp (if neg then .neq else .eql) t x (.const (.slice none 0 0)) yt) (ht:P.underlying t=some (.slice e)) (hx:cO P x=some x')
  (hv:cD (cY env x')=some b):nK P a o w D ι (.bool (cQ neg b)):=by
 have hr:=dQ E hx
 have rx:∃A n c,a.eval x=.slice A n c/\b=A.isNone:=by
  unfold cD at hv
  split at hv<;>simp at hv<;>subst hv<;>rename_i hh
  ·rw[hh]at hr;exact⟨_,_,_,iK hr,rfl⟩
  ·rw[hh]at hr;obtain⟨o,cap,B,h,_⟩:=iy hr
   exact⟨_,_,_,h,rfl⟩
  ·rw[hh]at hr
   obtain⟨A,c,h',_,_,h⟩:=sL hr
   rcases h with h|⟨b,o,sz,vs,rfl,_⟩
   ·simp at h
   ·exact⟨_,_,_,h',rfl⟩
 refine⟨.bool (cQ neg b),?_,.eG _ _ (.bool _)⟩
 obtain⟨A,n,c,h,rfl⟩:=rx
 have hq:(Op.equal t (.slice A n c) (.slice none 0 0)).run P w=.ok A.isNone w:=by
  unfold Op.equal
  rw[show Op.maxDepth=9999+1 from rfl,Op.equalIn]
  simp only[Sem.run_bind,run_underlying ht,Result.andThen_ok]
  cases A<;>rfl
 have hc:a.eval (.const (.slice none 0 0))=.slice none 0 0:=rfl
 simp only[execOp,ho,h,hc]
 cases neg<;>simp only[Bool.false_eq_true,if_false,if_true,Bool.not_true,Bool.not_false,eqGuard,binOp,cQ,Sem.run_bind,hq,Result.andThen_ok,Sem.run_pure]
theorem UA {x:Operand} {x':O} {t yt e:TypeId} {neg:Bool} {b:Bool} (E:db P w D ι env a) (ho:o.op=.binOp (if neg then .neq else .eql) t x (.const (.pointer none)) yt) (ht:P.underlying t=some (.pointer e)) (hx:cO P x=some x')
  (hv:Li (cY env x')=some b):nK P a o w D ι (.bool (cQ neg b)):=by
 have hr:=dQ E hx
 have rx:∃A,a.eval x=.pointer A/\b=A.isNone:=by
  unfold Li at hv
  split at hv<;>simp at hv<;>subst hv<;>rename_i hh
  ·rw[hh]at hr;exact⟨_,KK hr,rfl⟩
  ·rw[hh]at hr;obtain⟨B,h,_⟩:=gZ hr
   exact⟨_,h,rfl⟩
  ·rw[hh]at hr;obtain⟨_,_,_,h,_⟩:=kI hr
   exact⟨_,h,rfl⟩
 refine⟨.bool (cQ neg b),?_,.eG _ _ (.bool _)⟩
 obtain⟨A,h,rfl⟩:=rx
 have hq:(Op.equal t (.pointer A) (.pointer none)).run P w=.ok A.isNone w:=by
  unfold Op.equal
  rw[show Op.maxDepth=9999+1 from rfl,Op.equalIn]
  simp only[Sem.run_bind,run_underlying ht,Result.andThen_ok]
  cases A<;>rfl
 have hc:a.eval (.const (.pointer none))=.pointer none:=rfl
 simp only[execOp,ho,h,hc]
 cases neg<;>simp only[Bool.false_eq_true,if_false,if_true,Bool.not_true,Bool.not_false,eqGuard,binOp,cQ,Sem.run_bind,hq,Result.andThen_ok,Sem.run_pure]
theorem Re {x:Operand} {x':O} {t yt:TypeId} {p r:Array TypeId} {va:Bool} {neg:Bool} {b:Bool} (E:db P w D ι env a) (ho:o.op=.binOp (if neg then .neq else .eql) t x (.const .nilFunc) yt) (ht:P.underlying t=some (.func p r va)) (hx:cO P x=some x')
  (hv:cC (cY env x')=some b):nK P a o w D ι (.bool (cQ neg b)):=by
 have hr:=dQ E hx
 have rx:a.eval x=.nilFunc/\b=true∨∃f c,a.eval x=.func f #[] c/\b=false:=by
  unfold cC at hv
  split at hv<;>simp at hv<;>subst hv<;>rename_i hh
  ·rw[hh]at hr;exact .inl ⟨wZ hr,rfl⟩
  ·rw[hh]at hr;obtain⟨vs,g,h,_⟩:=sK hr
   exact .inr ⟨_,_,h,rfl⟩
 refine⟨.bool (cQ neg b),?_,.eG _ _ (.bool _)⟩
 have hc:a.eval (.const .nilFunc)=.nilFunc:=rfl
 rcases rx with⟨h,rfl⟩|⟨f,c,h,rfl⟩
 ·have hq:(Op.equal t .nilFunc .nilFunc).run P w=.ok true w:=by
   unfold Op.equal
   rw[show Op.maxDepth=9999+1 from rfl,Op.equalIn]
   simp only[Sem.run_bind,run_underlying ht,Result.andThen_ok]
   rfl
  simp only[execOp,ho,h,hc]
  cases neg<;>simp only[Bool.false_eq_true,if_false,if_true,Bool.not_true,Bool.not_false,eqGuard,binOp,cQ,Sem.run_bind,hq,Result.andThen_ok,Sem.run_pure]
 ·have hq:(Op.equal t (.func f #[] c) .nilFunc).run P w=.ok false w:=by
   unfold Op.equal
   rw[show Op.maxDepth=9999+1 from rfl,Op.equalIn]
   simp only[Sem.run_bind,run_underlying ht,Result.andThen_ok]
   rfl
  simp only[execOp,ho,h,hc]
  cases neg<;>simp only[Bool.false_eq_true,if_false,if_true,Bool.not_true,Bool.not_false,eqGuard,binOp,cQ,Sem.run_bind,hq,Result.andThen_ok,Sem.run_pure]
theorem UE {x:Operand} {x':O} {t:TypeId} (E:db P w D ι env a) (ho:o.op=.unOp .not t x) (hx:cO P x=some x') (hv:dr (cY env x')=some v):nK P a o w D ι v:=by
 have hr:=dQ E hx
 unfold dr at hv
 split at hv
 ·rename_i b hb
  simp at hv;subst hv
  rw[hb]at hr
  exact⟨_,by simp only[execOp,ho,fm hr];rfl,.eG _ _ (.bool _)⟩
 ·simp at hv
theorem UD {x:Operand} {x':O} {t:TypeId} (E:db P w D ι env a) (ho:o.op=.unOp .neg t x) (hx:cO P x=some x') (hv:dp (cY env x')=some v):nK P a o w D ι v:=by
 have hr:=dQ E hx
 unfold dp at hv
 split at hv
 ·rename_i k n hb
  simp at hv;subst hv
  rw[hb]at hr
  refine⟨_,by simp only[execOp,ho,dO hr];rfl,?_⟩
  rw[Int.zero_sub];exact .eG _ _ (.int _ _)
 ·simp at hv
theorem Rc {x:Operand} {x':O} {s d:TypeId} {k q:IntKind} (E:db P w D ι env a) (ho:o.op=.convert s d x) (hs:P.underlying s=some (.int q)) (hd:P.underlying d=some (.int k)) (hx:cO P x=some x') (hv:ck k (cY env x')=some v):nK P a o w D ι v:=by
 have hr:=dQ E hx
 unfold ck at hv
 split at hv
 ·rename_i k' n hb
  simp at hv;subst hv
  rw[hb]at hr
  refine⟨.int k (k.wrap n),?_,.eG _ _ (.int _ _)⟩
  simp only[execOp,ho,dO hr,convert,Sem.run_bind,run_underlying hs,run_underlying hd,Result.andThen_ok,Conv.intToInt,Sem.run_pure]
 ·simp at hv
theorem NN {x:Operand} {x':O} {s:TypeId} {i:Nat} {fs:Array Field} {f:Field} {m:Nat} (E:db P w D ι env a) (ho:o.op=.fieldAddr s x i) (hs:P.underlying s=some (.struct fs)) (hf:fs[i]? =some f) (hm:ep P f.type=some (m+1)) (hx:cO P x=some x')
  (hv:EW f.offset (cY env x')=some v):nK P a o w D ι v:=by
 have hr:=dQ E hx
 have go:∀b oo,a.eval x=.pointer (some ⟨b,oo,none⟩)->(execOp a.eval o).run P w=.ok (.value (.pointer (some ⟨b,oo+f.offset,none⟩))) w:=fun b oo h=>by
  simp only[execOp,ho,h,Instr.fieldAt,Sem.run_bind,run_underlying hs,Result.andThen_ok,hf,Instr.sureAddr,Sem.run_pure,fieldPlace,run_sizeOf hm,Nat.add_eq_zero_iff,Nat.one_ne_zero,and_false,if_false,Addr.add]
  split
  ·rename_i h0;simp[h0]
  ·rfl
 unfold EW at hv
 split at hv
 ·rename_i jQ i' oo hb
  simp at hv;subst hv
  rw[hb]at hr
  obtain⟨B,h,hB,hk⟩:=gZ hr
  refine⟨_,go _ _ h,?_⟩
  rw[Nat.add_assoc]
  exact .ptr _ _ _ _ hB hk
 ·rename_i cs hb
  simp at hv;subst hv
  rw[hb]at hr
  obtain⟨b,oo,vs,h,h1,h2,h3,h4⟩:=kI hr
  refine⟨_,go _ _ h,.eG _ _ (.eT _ _ _ (fun j=>vs (f.offset+j)) h1 (fun a ha=>h2 a (List.mem_of_mem_drop ha)) (fun j hj=>?_) (fun j a ha=>h4 _ _ (by simpa using ha)))⟩
  rw[Nat.add_assoc]
  exact h3 _ (by simp at hj;omega)
 ·simp at hv
theorem NO {x:Operand} {x':O} {s:TypeId} {i n:Nat} {ag:Bool} {fs:Array Field} {f:Field} (E:db P w D ι env a) (ho:o.op=.field s x i) (hs:P.underlying s=some (.struct fs)) (hf:fs[i]? =some f) (tn:lN P f.type=some ag) (hm:ep P f.type=some n) (hx:cO P x=some x')
  (hv:br ag f.offset n (cY env x')=some v):nK P a o w D ι v:=by
 have hr:=dQ E hx
 unfold br at hv
 split at hv
 ·rename_i cs hb
  split at hv
  ·rename_i hl
   rw[hb]at hr
   obtain⟨vs,g,h,n1,fl,f1,r1⟩:=iw hr
   unfold part at hv
   cases ag with
   |true=>
    simp only[if_true]at hv
    split at hv
    ·simp at hv;subst hv
     refine⟨.agg (vs.extract f.offset (f.offset+n)),?_,.agg _ _ (fun j=>g (f.offset+j)) (by simp[n1];omega) (fun a ha=>fl a (List.mem_of_mem_drop (List.mem_of_mem_take ha))) (fun j hj=>?_) (fun j a ha=>?_)⟩
     ·simp only[execOp,ho,h,Instr.field,Sem.run_bind,run_underlying hs,Result.andThen_ok,hf,asAgg,Sem.run_pure,pg tn hm]
     ·simp at hj
      rw[Array.getElem?_extract,if_pos ab];exact f1 _ ab
     ·rw[List.getElem?_take]at ha
      split at ha
      ·exact r1 _ _ (by simpa using ha)
      ·simp at ha
    ·simp at hv
   |false=>
    simp only[Bool.false_eq_true,if_false]at hv
    have nF:cs[f.offset]? =some v:=by simpa[List.head?_drop]using hv
    have eR:=(List.getElem?_eq_some_iff.1 nF).1
    exact⟨g f.offset,by simp only[execOp,ho,h,Instr.field,Sem.run_bind,run_underlying hs,Result.andThen_ok,hf,asAgg,Sem.run_pure,mb tn (f1 _ eR)],r1 _ _ nF⟩
  ·simp at hv
 ·simp at hv
theorem UF {left:Bool} {x y:Operand} {x' y':O} {t yt:TypeId} (E:db P w D ι env a) (ho:o.op=.binOp (if left then .shl else .shr) t x y yt) (hx:cO P x=some x') (hy:cO P y=some y') (hv:eQ left (cY env x') (cY env y')=some v):nK P a o w D ι v:=by
 unfold eQ at hv
 split at hv
 ·rename_i k n k' m hb sq
  split at hv
  ·simp at hv
  ·rename_i hm
   simp at hv;subst hv
   have h1:=dO (hb▸dQ E hx)
   have h2:=dO (sq▸dQ E hy)
   refine⟨_,?_,.eG _ _ (.int _ _)⟩
   simp only[execOp,ho,h1,h2]
   cases left<;>simp only[Bool.false_eq_true,if_false,if_true,eqGuard,Bool.not_true,Bool.not_false,binOp,Op.shift,hm,Sem.run_bind,Sem.run_pure,Result.andThen_ok]<;>rfl
 ·simp at hv
end
end Go.Proofs.YtakkdjfmiffbfaaGreatDoor.V

namespace Go.Proofs.YtakkdjfmiffbfaaGreatDoor.V
open Go.RowKit
variable {P:Program} {w w':World} {D D':Nat->Prop} {ι ι':Names}
theorem jY (b o j:Nat):(⟨b,o,none⟩:Addr).add j=⟨b,o+j,none⟩:=by unfold Addr.add;split<;>simp_all
section
variable {g:Rows} {hs:Nat} {env:Env} {a:Act} {o:Oper} {id:Id} {v:AV}
theorem jr {t:TypeId} {ag:Bool} {n b oo:Nat} {cs:List AV} {v:AV} {f:Nat->Value} (tn:lN P t=some ag) (hn:ep P t=some n) (hp:part ag n cs=some v) (fl:∀a∈cs,a.cell=true)
  (hc:∀j,j<cs.length->w.cell? ⟨b,oo+j,none⟩=some (f j)) (hr:∀j a,cs[j]? =some a->dF P w D ι a (f j)):∃u,(loadVar t ⟨b,oo,none⟩).run P w=.ok u w/\dF P w D ι v u:=by
 unfold part at hp
 cases ag with
 |true=>
  simp only[if_true]at hp
  split at hp
  ·rename_i hl
   simp at hp;subst hp
   refine⟨.agg ((List.range n).map f).toArray,?_,.agg _ _ f (by simp;omega) (fun a ha=>fl a (List.mem_of_mem_take ha)) (fun j hj=>?_) (fun j a ha=>?_)⟩
   ·simp only[loadVar,Sem.run_bind,sM tn,Result.andThen_ok,if_true,run_sizeOf hn,Sem.run_pure]
    rw[run_loadCells w _ n f (fun j hj=>by rw[jY];exact hc j ab)]
    rfl
   ·simp at hj
    have:j<n:=ab
    simp[this]
   ·rw[List.getElem?_take]at ha
    split at ha
    ·exact hr _ _ ha
    ·simp at ha
  ·simp at hp
 |false=>
  simp only[Bool.false_eq_true,if_false]at hp
  cases cs with
  |nil=>simp at hp
  |cons c r=>
   simp at hp;subst hp
   refine⟨f 0,?_,hr 0 _ rfl⟩
   simp only[loadVar,Sem.run_bind,sM tn,Result.andThen_ok,Bool.false_eq_true,if_false]
   have:=hc 0 (by simp)
   simp at this
   rw[run_load,this]
theorem KU {S:fY P hs D ι g w} {i:Nat} {cs:List AV} (h:rowAt g id i=some cs) (hk:∀B,ι id=some B->B.k=none):∃B r,g id=some r/\ι id=some B/\j6 P w D ι B r/\r.rows[i]? =some cs/\(∀a∈cs,a.cell=true)/\∃f:Nat->Value,∀j,j<cs.length->w.cell? ⟨B.b,i*B.sz+j,none⟩=some (f j)/\∀a,cs[j]? =some a->dF P w D ι a (f j):=by
 unfold rowAt at h
 simp only[Option.bind_eq_some_iff]at h
 obtain⟨r,hr,hi⟩:=h
 obtain⟨B,hB,R,_,_⟩:=S.row id r hr
 replace R:=R.row (hk B hB)
 refine⟨B,r,hr,hB,R,hi,R.flat cs (List.mem_of_getElem? hi),fun j=>(w.cell? ⟨B.b,i*B.sz+j,none⟩).getD undef,fun j hj=>?_⟩
 obtain⟨u,hu,xR⟩:=R.at_ i j cs _ hi (List.getElem?_eq_getElem hj)
 rw[R.sz,hu]
 refine⟨by simp only[hu,Option.getD_some],fun a ha=>?_⟩
 rw[List.getElem?_eq_getElem hj]at ha
 injection ha with ha
 subst ha
 simpa only[hu,Option.getD_some]using xR
theorem Rl {x:Operand} {x':O} {t:TypeId} {ag:Bool} {n:Nat} (S:fY P hs D ι g w) (E:db P w D ι env a) (ho:o.op=.load t x) (tn:lN P t=some ag) (hn:ep P t=some n) (hx:cO P x=some x') (hv:ld g ag n (cY env x')=some v):nK P a o w D ι v:=by
 have hr:=dQ E hx
 have go:∀b oo u,a.eval x=.pointer (some ⟨b,oo,none⟩)->(loadVar t ⟨b,oo,none⟩).run P w=.ok u w->(execOp a.eval o).run P w=.ok (.value u) w:=fun b oo u h h2=>by
  simp only[execOp,ho,h,Instr.loadAt,Instr.sureAddr,Sem.run_bind,Sem.run_pure,Result.andThen_ok,h2]
 unfold ld at hv
 split at hv
 ·rename_i jQ i' oo hb
  rw[hb]at hr
  obtain⟨B,h,hB,hk⟩:=gZ hr
  simp only[Option.bind_eq_some_iff]at hv
  obtain⟨cs,eb,hp⟩:=hv
  obtain⟨B',r,Lz,ei,R,hi,fl,f,hf⟩:=KU (S:=S) eb (fun B2 h2=>by rw[hB]at h2;injection h2 with h2;subst h2;exact hk)
  rw[hB]at ei;injection ei with ei;subst ei
  obtain⟨u,h1,h2⟩:=jr (w:=w) (b:=B.b) (oo:=i'*B.sz+oo) (f:=fun j=>f (oo+j)) tn hn hp (fun a ha=>fl a (List.mem_of_mem_drop ha)) (fun j hj=>by
   rw[Nat.add_assoc];exact(hf _ (by simp at hj;omega)).1) (fun j a ha=>by
   simp at ha;exact(hf _ ((List.getElem?_eq_some_iff.1 ha).1)).2 _ ha)
  exact⟨u,go _ _ _ h h1,h2⟩
 ·rename_i cs hb
  rw[hb]at hr
  obtain⟨b,oo,vs,h,h1,h2,h3,h4⟩:=kI hr
  obtain⟨u,k1,k2⟩:=jr (w:=w) (b:=b) (oo:=oo) (f:=vs) tn hn hv h2 h3 (fun j a ha=>.eG _ _ (h4 j a ha))
  exact⟨u,go _ _ _ h k1,k2⟩
 ·simp at hv
theorem Nw (S:fY P hs D ι g w) {id:Id} {i k t:Nat} {s:ByteArray} (h:rowAt g id i=some [.err k t s]):∃u,dF P w D ι (.err k t s) u:=by
 unfold rowAt at h
 simp only[Option.bind_eq_some_iff]at h
 obtain⟨r,hr,hi⟩:=h
 obtain⟨B,hB,R,_⟩:=S.row id r hr
 cases hk:B.k with
 |none=>
  obtain⟨u,_,h2⟩:=(R.row hk).at_ i 0 _ _ hi rfl
  exact⟨u,h2⟩
 |some m=>
  cases m with
  |map m=>
   obtain⟨_,es,c,h3,h4,⟨h5,_⟩,h6⟩:=R.map m hk
   obtain⟨e,kv,vv,_,_,q3,_,q5⟩:=h6 i _ hi
   have h7:=h5 _ (List.mem_of_getElem? hi)
   have h8:m.ks=0:=by simp at h7;omega
   rw[h8]at q3
   simp at q3
   subst q3
   exact⟨_,q5⟩
  |chan c=>
   obtain⟨_,buf,s',q,h3,h4,h5⟩:=R.chan c hk
   obtain⟨x,u,q1,_,q3⟩:=h5 i _ hi
   injection q1 with q1
   subst q1
   exact⟨u,q3⟩
theorem NP {t:TypeId} {k:Nat} (S:fY P hs D ι g w) (ho:o.op=.load t (.global k)) (hn:ep P t=some 1) (tn:lN P t=some false) (hv:eO g k=some v):nK P a o w D ι v:=by
 unfold eO at hv
 simp only[Option.bind_eq_some_iff]at hv
 obtain⟨cs,eb,hv⟩:=hv
 split at hv
 ·rename_i j t1 s
  split at hv
  ·rename_i hj
   subst hj
   injection hv with hv
   subst hv
   obtain⟨u,hu⟩:=Nw S eb
   obtain⟨_,_,_,qb,_,hc,_⟩:=pf hu
   obtain⟨u',k1,k2⟩:=jr (w:=w) (b:=j) (oo:=0) (f:=fun _=>u) tn hn (show part false 1 [.err j t1 s]=some (.err j t1 s)from rfl) (fun a ha=>by simp at ha;subst ha;rfl) (fun i hi=>by
    have:i=0:=by simp at hi;omega
    subst this;exact hc) (fun i x hx=>by
    have hi:=(List.getElem?_eq_some_iff.1 hx).1
    have:i=0:=by simp at hi;omega
    subst this
    simp at hx
    subst hx
    exact hu)
   exact⟨u',by simp only[execOp,ho,Instr.loadAt,Instr.sureAddr,Act.eval,Sem.run_bind,Sem.run_pure,Result.andThen_ok,k1],k2⟩
  ·simp at hv
 ·simp at hv
theorem Uy {x:Operand} {x':O} (E:db P w D ι env a) (ho:o.op=.nilCheck x) (hx:cO P x=some x') (hv:dm (cY env x')=some v):nK P a o w D ι v:=by
 have hr:=dQ E hx
 unfold dm at hv
 split at hv
 ·rename_i jQ i' oo hb
  simp at hv;subst hv
  rw[hb]at hr
  obtain⟨B,h,hB,hk⟩:=gZ hr
  exact⟨_,by simp only[execOp,ho,h];rfl,.ptr _ _ _ _ hB hk⟩
 ·rename_i cs hb
  simp at hv;subst hv
  rw[hb]at hr
  obtain⟨b,oo,vs,h,_⟩:=kI hr
  exact⟨_,by simp only[execOp,ho,h];rfl,h▸hr⟩
 ·simp at hv
theorem NQ {x i:Operand} {x' i':O} {t e:TypeId} {m:Nat} (S:fY P hs D ι g w) (E:db P w D ι env a) (ho:o.op=.indexAddr t x i) (ht:P.underlying t=some (.slice e)) (hm:ep P e=some (m+1)) (hx:cO P x=some x') (hi:cO P i=some i')
  (hv:bt g (m+1) (cY env x') (cY env i')=some v):nK P a o w D ι v:=by
 have hr:=dQ E hx
 have DX:=dQ E hi
 have go:∀b oo n c k (q:Int),a.eval x=.slice (some ⟨b,oo,none⟩) n c->a.eval i=.int k q->0<=q->q<n->(execOp a.eval o).run P w=.ok (.value (.pointer (some ⟨b,oo+q.toNat*(m+1),none⟩))) w:=fun b oo n c k q h h2 h3 h4=>by
  simp only[execOp,ho,h,h2,Instr.indexAt,asIntOf,Sem.run_bind,Sem.run_pure,run_underlying ht,Result.andThen_ok,h3,h4,and_self,if_true,run_sizeOf hm,jY]
 unfold bt at hv
 split at hv
 ·rename_i rows k q hb sq
  split at hv
  ·rename_i hq
   simp only[Option.bind_eq_some_iff]at hv
   obtain⟨cs,eb,hv⟩:=hv
   split at hv
   ·rename_i hlen
    simp at hv;subst hv
    rw[hb]at hr;rw[sq]at DX
    have eR:=(List.getElem?_eq_some_iff.1 eb).1
    obtain⟨A,c,h,h1,h2,h3⟩:=sL hr
    rcases h3 with h3|⟨b,oo,sz,vs,rfl,hD,hl,fl,hc,hi⟩
    ·subst h3;simp at eb
    have e8:sz=m+1:=by rw[<-hlen,hl cs (List.mem_of_getElem? eb)]
    refine⟨_,go b oo _ _ k q h (dO DX) hq ab,.eG _ _ (.eT cs b _ (vs q.toNat) hD (fl cs (List.mem_of_getElem? eb)) (fun j hj=>?_) (fun j a ha=>hi _ _ _ _ eb ha))⟩
    have:=hc q.toNat j eR (by rw[<-hl cs (List.mem_of_getElem? eb)];exact hj)
    rw[e8]at this
    rw[Nat.add_assoc];exact this
   ·simp at hv
  ·simp at hv
 ·rename_i jQ off len k q hb sq
  split at hv
  ·rename_i hq
   simp only[Option.bind_eq_some_iff]at hv
   obtain⟨r,Lz,hv⟩:=hv
   split at hv
   ·rename_i tW
    simp at hv;subst hv
    rw[hb]at hr;rw[sq]at DX
    obtain⟨oo,cap,B,h,hB,h1,h2,h3,h4,hk⟩:=iy hr
    obtain⟨B',ei,R,_,_⟩:=S.row _ _ Lz
    rw[hB]at ei;injection ei with ei;subst ei
    replace R:=R.row hk
    have e8:B.sz=m+1:=R.sz.trans tW
    refine⟨_,go _ _ _ _ k q h (dO DX) hq.1 hq.2,?_⟩
    have CY:oo=off*B.sz:=by rcases h2 with h2|h2<;>omega
    have:oo+q.toNat*(m+1)=(off+q.toNat)*B.sz+0:=by rw[CY,<-e8,Nat.add_mul];rfl
    rw[this]
    exact .ptr _ _ _ _ hB hk
   ·simp at hv
  ·simp at hv
 ·simp at hv
theorem Rg {x i:Operand} {x' i':O} {t e:TypeId} {m len:Nat} (E:db P w D ι env a) (ho:o.op=.indexAddr t x i) (ht:P.underlying t=some (.array len e)) (hm:ep P e=some (m+1)) (hx:cO P x=some x') (hi:cO P i=some i')
  (hv:cm len (m+1) (cY env x') (cY env i')=some v):nK P a o w D ι v:=by
 have hr:=dQ E hx
 have DX:=dQ E hi
 have go:∀b oo k (q:Int),a.eval x=.pointer (some ⟨b,oo,none⟩)->a.eval i=.int k q->0<=q->q<len->(execOp a.eval o).run P w=.ok (.value (.pointer (some ⟨b,oo+q.toNat*(m+1),none⟩))) w:=fun b oo k q h h2 h3 h4=>by
  simp only[execOp,ho,h,h2,Instr.indexAt,asIntOf,Sem.run_bind,Sem.run_pure,run_underlying ht,Instr.sureAddr,Result.andThen_ok,h3,h4,and_self,if_true,run_sizeOf hm,jY]
 unfold cm at hv
 split at hv
 ·rename_i jQ r oo k q hb sq
  split at hv
  ·rename_i hq
   simp at hv;subst hv
   rw[hb]at hr;rw[sq]at DX
   obtain⟨B,h,hB,hk⟩:=gZ hr
   refine⟨_,go _ _ k q h (dO DX) hq.1 hq.2,?_⟩
   rw[Nat.add_assoc]
   exact .ptr _ _ _ _ hB hk
  ·simp at hv
 ·rename_i cs k q hb sq
  split at hv
  ·rename_i hq
   simp at hv;subst hv
   rw[hb]at hr;rw[sq]at DX
   obtain⟨b,oo,vs,h,h1,h2,h3,h4⟩:=kI hr
   refine⟨_,go _ _ k q h (dO DX) hq.1 hq.2,.eG _ _ (.eT _ _ _ (fun j=>vs (q.toNat*(m+1)+j)) h1 (fun a ha=>h2 a (List.mem_of_mem_drop ha)) (fun j hj=>?_) (fun j a ha=>h4 _ _ (by simpa using ha)))⟩
   rw[Nat.add_assoc]
   exact h3 _ (by simp at hj;omega)
  ·simp at hv
 ·simp at hv
theorem Ri {x i:Operand} {x' i':O} {t:TypeId} (E:db P w D ι env a) (ho:o.op=.index t x i) (ht:P.underlying t=some .string) (hx:cO P x=some x') (hi:cO P i=some i')
  (hv:cr (cY env x') (cY env i')=some v):nK P a o w D ι v:=by
 have hr:=dQ E hx
 have DX:=dQ E hi
 unfold cr at hv
 split at hv
 ·rename_i s k q hb sq
  split at hv
  ·rename_i hq
   simp only[Option.map_eq_some_iff]at hv
   obtain⟨c,hc,rfl⟩:=hv
   rw[hb]at hr;rw[sq]at DX
   refine⟨_,?_,.eG _ _ (.int _ _)⟩
   simp only[execOp,ho,fM hr,dO DX,Instr.index,asIntOf,Sem.run_bind,Sem.run_pure,run_underlying ht,Result.andThen_ok,hq,if_true,hc]
  ·simp at hv
 ·simp at hv
theorem Rh {x i:Operand} {x' i':O} {t e:TypeId} {ag:Bool} {len n:Nat} (E:db P w D ι env a) (ho:o.op=.index t x i) (ht:P.underlying t=some (.array len e)) (tn:lN P e=some ag) (hn:ep P e=some n) (hx:cO P x=some x') (hi:cO P i=some i')
  (hv:cq ag len n (cY env x') (cY env i')=some v):nK P a o w D ι v:=by
 have hr:=dQ E hx
 have DX:=dQ E hi
 unfold cq at hv
 split at hv
 ·rename_i cs k q hb sq
  split at hv
  ·rename_i hq
   rw[hb]at hr;rw[sq]at DX
   obtain⟨vs,f,h,n1,fl,f1,r1⟩:=iw hr
   have go:∀u,(Go.part e vs (q.toNat*n)).run P w=.ok u w->(execOp a.eval o).run P w=.ok (.value u) w:=fun u hu=>by
    simp only[execOp,ho,h,dO DX,Instr.index,asIntOf,Sem.run_bind,Sem.run_pure,run_underlying ht,Result.andThen_ok,hq,and_self,if_true,run_sizeOf hn,hu]
   unfold part at hv
   cases ag with
   |true=>
    simp only[if_true]at hv
    split at hv
    ·rename_i hl
     simp at hv;subst hv
     simp only[List.length_drop]at hl
     by_cases Ij:n=0
     ·subst Ij
      refine⟨_,go _ (pg tn hn),.agg _ _ (fun _=>undef) (by simp) (fun a ha=>by simp at ha) (fun j hj=>by simp at hj) (fun j a ha=>by simp at ha)⟩
     refine⟨_,go _ (pg tn hn),.agg _ _ (fun j=>f (q.toNat*n+j)) (by simp[n1];omega) (fun a ha=>fl a (List.mem_of_mem_drop (List.mem_of_mem_take ha))) (fun j hj=>?_) (fun j a ha=>?_)⟩
     ·simp at hj
      rw[Array.getElem?_extract,if_pos ab];exact f1 _ ab
     ·rw[List.getElem?_take]at ha
      split at ha
      ·exact r1 _ _ (by simpa using ha)
      ·simp at ha
    ·simp at hv
   |false=>
    simp only[Bool.false_eq_true,if_false]at hv
    have nF:cs[q.toNat*n]? =some v:=by simpa[List.head?_drop]using hv
    have eR:=(List.getElem?_eq_some_iff.1 nF).1
    exact⟨_,go _ (mb tn (f1 _ eR)),r1 _ _ nF⟩
  ·simp at hv
 ·simp at hv
theorem H4 {x:Operand} {x':O} {i:Nat} (E:db P w D ι env a) (ho:o.op=.extract x i) (hx:cO P x=some x') (hv:aw i (cY env x')=some v):nK P a o w D ι v:=by
 have hr:=dQ E hx
 unfold aw at hv
 split at hv
 ·rename_i vs hb
  rw[hb]at hr
  obtain⟨us,f,h,h1,h2,h3⟩:=uz hr
  have eR:=(List.getElem?_eq_some_iff.1 hv).1
  exact⟨_,by simp only[execOp,ho,h,Instr.extract,h2 _ eR];rfl,h3 _ _ hv⟩
 ·simp at hv
theorem UC {x:Operand} {x':O} {t:TypeId} {e:TypeId} {n:Nat} (E:db P w D ι env a) (ho:o.op=.call {callee:=.builtin .len,args:= #[x],argTypes:= #[t]}) (ht:P.underlying t=some (.slice e)) (hx:cO P x=some x') (hv:dn (cY env x')=some n):nK P a o w D ι (.int .i64 n):=by
 have hr:=dQ E hx
 have go:∀A c,a.eval x=.slice A n c->(execOp a.eval o).run P w=.ok (.value (.int .i64 n)) w:=fun A c h=>by
  simp only[execOp,ho,resolve,Sem.run_bind,Sem.run_pure,Result.andThen_ok,invoke,builtin,Array.map,h]
  simp[Builtin.len_,run_underlying ht,goInt,h]
 refine⟨.int .i64 n,?_,.eG _ _ (.int _ _)⟩
 unfold dn at hv
 split at hv<;>simp at hv<;>subst hv<;>rename_i hb<;>rw[hb]at hr
 ·exact go _ _ (iK hr)
 ·obtain⟨A,c,h,_⟩:=sL hr;exact go _ _ h
 ·obtain⟨oo,cap,B,h,_⟩:=iy hr;exact go _ _ h
theorem Rk {x:Operand} {x':O} {t:TypeId} (E:db P w D ι env a) (ho:o.op=.call {callee:=.builtin .len,args:= #[x],argTypes:= #[t]}) (ht:P.underlying t=some .string) (hx:cO P x=some x') (hv:cw (cY env x')=some v):nK P a o w D ι v:=by
 have hr:=dQ E hx
 unfold cw at hv
 split at hv
 ·rename_i s hb
  simp at hv;subst hv
  rw[hb]at hr
  have h:=fM hr
  refine⟨_,?_,.eG _ _ (.int _ _)⟩
  simp only[execOp,ho,resolve,Sem.run_bind,Sem.run_pure,Result.andThen_ok,invoke,builtin,Array.map,h]
  simp[Builtin.len_,run_underlying ht,goInt,h]
 ·simp at hv
theorem mN {isS:Bool} {len cap h l:Nat} {lo hi:Option Operand} {Oz pG:Option O} (E:db P w D ι env a) (lx:qD P lo=some Oz) (GW:qD P hi=some pG) (hh:dc len (pG.map (cY env))=some h) (hl:de h (Oz.map (cY env))=some l) (hc:len<=cap):
  (Instr.sliceBounds isS len cap (lo.map a.eval) (hi.map a.eval) none).run P w=.ok (l,h,cap) w/\l<=h/\h<=len:=by
 have bound:∀(x:Operand) (y:O) (k:IntKind) (n:Int) (m:Nat) (c:BoundsCode),cO P x=some y->cY env y=.int k n->0<=n->n<=m->(Instr.sliceBound (a.eval x) m c).run P w=.ok n.toNat w:=fun x y k n m c hx hy h0 h1=>by
  have hr:=dQ E hx
  rw[hy]at hr
  simp only[Instr.sliceBound,dO hr,asIntOf,Sem.run_bind,Sem.run_pure,Result.andThen_ok,h0,h1,and_self,if_true]
 have H:h<=len/\((hi=none/\h=len)∨∃x,hi=some x/\∀c,(Instr.sliceBound (a.eval x) cap c).run P w=.ok h w):=by
  cases hi with
  |none=>
   simp[qD]at GW;subst GW
   simp[dc]at hh;subst hh
   exact⟨Nat.le_refl _,.inl ⟨rfl,rfl⟩⟩
  |some x=>
   simp only[qD,Option.map_eq_some_iff]at GW
   obtain⟨y,hy,rfl⟩:=GW
   simp only[Option.map_some,dc]at hh
   split at hh
   ·rename_i e;cases e
   ·rename_i k n e
    injection e with e
    split at hh
    ·rename_i hn
     simp at hh;subst hh
     exact⟨ab,.inr ⟨x,rfl,fun c=>bound x y k n _ _ hy e hn.1 ab⟩⟩
    ·simp at hh
   ·simp at hh
 have L:l<=h/\((lo=none/\l=0)∨∃x,lo=some x/\∀c,(Instr.sliceBound (a.eval x) h c).run P w=.ok l w):=by
  cases lo with
  |none=>
   simp[qD]at lx;subst lx
   simp[de]at hl;subst hl
   exact⟨Nat.zero_le _,.inl ⟨rfl,rfl⟩⟩
  |some x=>
   simp only[qD,Option.map_eq_some_iff]at lx
   obtain⟨y,hy,rfl⟩:=lx
   simp only[Option.map_some,de]at hl
   split at hl
   ·rename_i e;cases e
   ·rename_i k n e
    injection e with e
    split at hl
    ·rename_i hn
     simp at hl;subst hl
     exact⟨ab,.inr ⟨x,rfl,fun c=>bound x y k n h _ hy e hn.1 hn.2⟩⟩
    ·simp at hl
   ·simp at hl
 refine⟨?_,L.1,H.1⟩
 unfold Instr.sliceBounds
 rcases H.2 with⟨rfl,rfl⟩|⟨x,rfl,hx⟩<;>rcases L.2 with⟨rfl,rfl⟩|⟨y,rfl,hy⟩<;>
  simp only[Option.map_none,Option.map_some,Sem.run_bind,Sem.run_pure,Result.andThen_ok, *]
theorem NR {x:Operand} {x':O} {lo hi:Option Operand} {Oz pG:Option O} {t e:TypeId} {m:Nat} (S:fY P hs D ι g w) (E:db P w D ι env a) (ho:o.op=.slice t x lo hi none) (ht:P.underlying t=some (.slice e)) (hm:ep P e=some m) (hx:cO P x=some x') (lx:qD P lo=some Oz) (GW:qD P hi=some pG)
  (hv:bu g m (cY env x') (Oz.map (cY env)) (pG.map (cY env))=some v):nK P a o w D ι v:=by
 have hr:=dQ E hx
 have go:∀A len cap l h,a.eval x=.slice A len cap->(Instr.sliceBounds true len cap (lo.map a.eval) (hi.map a.eval) none).run P w=.ok (l,h,cap) w->(execOp a.eval o).run P w=.ok (.value (.slice (if cap=l then A else A.map (·.add (l*m))) (h-l) (cap-l))) w:=fun A len cap l h h1 h2=>by
  simp only[execOp,ho,h1,Instr.sliceAt,Instr.slice,Sem.run_bind,Sem.run_pure,run_underlying ht,Result.andThen_ok,Option.map_none,h2,run_sizeOf hm]
 unfold bu at hv
 split at hv
 ·rename_i hb
  rw[hb]at hr
  simp only[Option.bind_eq_some_iff,Option.map_eq_some_iff]at hv
  obtain⟨h,hh,l,hl,rfl⟩:=hv
  obtain⟨q,q1,q2⟩:=mN (w:=w) (isS:=true) (cap:=0) E lx GW hh hl (Nat.le_refl _)
  have h0:h=0:=ab
  have l0:l=0:=ab
  subst h0;subst l0
  refine⟨_,go _ _ _ _ _ (iK hr) q,?_⟩
  simp;exact .eG _ _ .bB
 ·rename_i rows hb
  rw[hb]at hr
  simp only[Option.bind_eq_some_iff,Option.map_eq_some_iff]at hv
  obtain⟨h,hh,l,hl,hv⟩:=hv
  split at hv
  ·rename_i eJ
   simp at hv;subst hv
   obtain⟨A,c,he,c1,c2,h3⟩:=sL hr
   obtain⟨q,q1,q2⟩:=mN (w:=w) (isS:=true) (cap:=c) E lx GW hh hl c1
   refine⟨_,go _ _ _ _ _ he q,.eG _ _ ?_⟩
   have hlen:((rows.drop l).take (h-l)).length=h-l:=by simp;omega
   by_cases hz:h-l=0
   ·have:(rows.drop l).take (h-l)=[]:=by rw[hz];simp
    rw[this,hz]
    exact .AU _ _ ab
   ·rcases h3 with h3|⟨b,oo,sz,vs,rfl,hD,Qg,fl,hc,hi⟩
    ·subst h3;simp at q2;omega
    rw[if_neg ab]
    simp only[Option.map_some,jY]
    have yH:sz=m:=by
     have eR:l<rows.length:=ab
     have:=eJ rows[l] (List.getElem_mem eR)
     rw[<-this,Qg _ (List.getElem_mem eR)]
    subst yH
    refine .sl _ b _ _ _ sz (fun i j=>vs (l+i) j) hlen ab ab hD (fun cs eb=>Qg cs (List.mem_of_mem_drop (List.mem_of_mem_take eb))) (fun cs eb=>fl cs (List.mem_of_mem_drop (List.mem_of_mem_take eb))) (fun i j hi hj=>?_) (fun i j cs a eb ha=>?_)
    ·rw[<-hc (l+i) j ab hj,Nat.add_mul]
     congr 2;omega
    ·rw[List.getElem?_take]at eb
     split at eb
     ·exact hi _ _ _ _ (by simpa using eb) ha
     ·simp at eb
  ·simp at hv
 ·rename_i jQ off len hb
  rw[hb]at hr
  simp only[Option.bind_eq_some_iff,Option.map_eq_some_iff]at hv
  obtain⟨r,Lz,h,hh,l,hl,hv⟩:=hv
  split at hv
  ·rename_i tW
   simp at hv;subst hv
   obtain⟨oo,cap,B,he,hB,h1,h2,h3,h4,hk⟩:=iy hr
   obtain⟨B',ei,R,_,_⟩:=S.row _ _ Lz
   rw[hB]at ei;injection ei with ei;subst ei
   replace R:=R.row hk
   have e8:B.sz=m:=R.sz.trans tW
   obtain⟨q,q1,q2⟩:=mN (w:=w) (isS:=true) (cap:=cap) E lx GW hh hl h1
   refine⟨_,go _ _ _ _ _ he q,?_⟩
   have e1:(off+l+(cap-l))*B.sz<=B.C:=by rw[show off+l+(cap-l)=off+cap by omega];exact h3
   by_cases mH:cap=l
   ·rw[if_pos mH]
    exact .own _ _ _ _ _ B hB hk ab (.inl ab) e1 ab
   ·rw[if_neg mH]
    simp only[Option.map_some,jY]
    have CY:oo=off*B.sz:=by rcases h2 with h2|h2<;>omega
    exact .own _ _ _ _ _ B hB hk ab (.inr (by rw[CY,e8,Nat.add_mul])) e1 ab
  ·simp at hv
 ·simp at hv
theorem Lt {x:Operand} {x':O} {lo hi:Option Operand} {Oz pG:Option O} {t:TypeId} (E:db P w D ι env a) (ho:o.op=.slice t x lo hi none) (ht:P.underlying t=some .string) (hx:cO P x=some x') (lx:qD P lo=some Oz) (GW:qD P hi=some pG)
  (hv:aE (cY env x') (Oz.map (cY env)) (pG.map (cY env))=some v):nK P a o w D ι v:=by
 have hr:=dQ E hx
 unfold aE at hv
 split at hv
 ·rename_i s hb
  rw[hb]at hr
  simp only[Option.bind_eq_some_iff,Option.map_eq_some_iff]at hv
  obtain⟨h,hh,l,hl,rfl⟩:=hv
  obtain⟨q,_,_⟩:=mN (w:=w) (isS:=false) E lx GW hh hl (Nat.le_refl _)
  refine⟨_,?_,.eG _ _ (.str _)⟩
  simp only[execOp,ho,fM hr,Instr.sliceAt,Instr.slice,Sem.run_bind,Sem.run_pure,run_underlying ht,Result.andThen_ok,Option.map_none,Option.isSome_none,Bool.false_eq_true,if_false,q]
 ·simp at hv
theorem Eu {xs:List Operand} {ys:List O} (E:db P w D ι env a) (h:xs.mapM (cO P)=some ys):(xs.map a.eval).length=ys.length/\∀j y,ys[j]? =some y->dF P w D ι (cY env y) ((xs.map a.eval).getD j undef):=by
 induction xs generalizing ys with
 |nil=>simp at h;subst h;simp
 |cons x r ih=>
  simp only[List.mapM_cons,Option.bind_eq_bind,Option.bind_eq_some_iff]at h
  obtain⟨c,hc,mA,eb,h⟩:=h
  simp at h;subst h
  obtain⟨h1,h2⟩:=ih eb
  refine⟨by simpa using h1,fun j d hd=>?_⟩
  cases j with
  |zero=>simp at hd ⊢;subst hd;exact dQ E hc
  |succ j=>simp at hd ⊢;simpa using h2 j d hd
theorem Rn {f:Nat} {first dJ:Array Operand} {Bl:List O} (E:db P w D ι env a) (ho:o.op=.makeFunc (.func f) first dJ) (hf:first= #[]) (hc:fW P f=true) (hx:dJ.toList.mapM (cO P)=some Bl):nK P a o w D ι (.fn f (Bl.map (cY env))):=by
 subst hf
 obtain⟨h1,h2⟩:=Eu E hx
 refine⟨.func (.func f) #[] (dJ.map a.eval),by simp only[execOp,ho,Instr.makeFunc,Sem.run_bind,Sem.run_pure,Result.andThen_ok];simp,.fn _ _ _ (fun j=>(dJ.toList.map a.eval).getD j undef) hc (by simpa using h1) (fun j hj=>?_) (fun j x RL=>?_)⟩
 ·simp at hj h1
  have:j<dJ.size:=ab
  simp[this]
 ·simp only[List.getElem?_map,Option.map_eq_some_iff]at RL
  obtain⟨y,hy,rfl⟩:=RL
  exact h2 j y hy
theorem Ro {f:Nat} {first dJ:Array Operand} {Bl:List O} (E:db P w D ι env a) (ho:o.op=.makeFunc (.func f) first dJ) (hf:dJ= #[]) (hc:fW P f=true) (hx:first.toList.mapM (cO P)=some Bl):nK P a o w D ι (.tD f (Bl.map (cY env))):=by
 subst hf
 obtain⟨h1,h2⟩:=Eu E hx
 refine⟨.func (.func f) (first.map a.eval) #[],by simp only[execOp,ho,Instr.makeFunc,Sem.run_bind,Sem.run_pure,Result.andThen_ok];simp,.tD _ _ _ (fun j=>(first.toList.map a.eval).getD j undef) hc (by simpa using h1) (fun j hj=>?_) (fun j x RL=>?_)⟩
 ·simp at hj h1
  have:j<first.size:=ab
  simp[this]
 ·simp only[List.getElem?_map,Option.map_eq_some_iff]at RL
  obtain⟨y,hy,rfl⟩:=RL
  exact h2 j y hy
end
end Go.Proofs.YtakkdjfmiffbfaaGreatDoor.V

namespace Go.Proofs.YtakkdjfmiffbfaaGreatDoor.V
open Go.RowKit
variable {P:Program} {w w':World} {D D':Nat->Prop} {ι ι':Names}
def Mk (P:Program) (a:Act) (o:Oper) (w:World) (D:Nat->Prop) (ι:Names) (id:Id) (v:AV) (r:Row):Prop:=
 ∃u cells T,(execOp a.eval o).run P w=.ok (.value u) (w.alloc (.cells cells T))/\r.w=true/\r.rows.length*r.sz<=cells.size/\(∀cs∈r.rows,cs.length=r.sz)/\(∀cs∈r.rows,∀a∈cs,a.cell=true)/\
  (∀i j cs a,r.rows[i]? =some cs->cs[j]? =some a->∃x,cells[i*r.sz+j]? =some x/\dF P w D ι a x)/\∀ι':Names,ι' id=some ⟨w.heap.size,r.sz,cells.size,none⟩->dF P w D ι' v u
section
variable {g:Rows} {hs:Nat} {env:Env} {a:Act} {o:Oper} {id:Id} {v:AV}
theorem kL {vs:List Value} {cs:List K} (h:vs.mapM Ha=some cs):fo P w D ι (cs.map K.av) vs.toArray:=by
 obtain⟨h1,h2⟩:=rf h
 refine⟨by simp[h1],fun j a ha=>?_⟩
 simp only[List.getElem?_map,Option.map_eq_some_iff]at ha
 obtain⟨c,hc,rfl⟩:=ha
 exact⟨c.val,by simpa using h2 j c hc,wW c⟩
theorem jJ {t:TypeId} {z:List K} (h:jy P t=some z):∃i v,P.info? t=some i/\i.zero=some v/\v.cells.size=i.size/\v.cells.toList.mapM Ha=some z/\z.length=i.size:=by
 unfold jy at h
 split at h
 ·rename_i i hi
  split at h
  ·rename_i v hv
   split at h
   ·rename_i hs
    exact⟨i,v,hi,hv,hs,h,by rw[(rf h).1];simpa using hs⟩
   ·simp at h
  ·simp at h
 ·simp at h
theorem FY {cs:List AV} {cells:Array Value} (h:fo P w D ι cs cells):∀i j c a,[cs][i]? =some c->c[j]? =some a->∃x,cells[i*cs.length+j]? =some x/\dF P w D ι a x:=by
 intro i j c a hi hj
 cases i with
 |zero=>simp at hi;subst hi;simpa using h.2 j a hj
 |succ i=>simp at hi
theorem TL {t:TypeId} {z:List K} (ho:o.op=.alloc t) (hz:jy P t=some z):Mk P a o w D ι id (.ptr id 0 0) ⟨true,z.length,[z.map K.av]⟩:=by
 obtain⟨i,v,hi,hv,hs,hm,hl⟩:=jJ hz
 have hk:=kL (P:=P) (w:=w) (D:=D) (ι:=ι) hm
 refine⟨.pointer (some ⟨w.heap.size,0,none⟩),v.cells,t,?_,rfl,?_,?_,?_,?_,?_⟩
 ·simp only[execOp,ho,Instr.alloc,zeroValue,typeInfo,Sem.run_bind]
  simp[hi,hv,newVar,newRow]
 ·simp[hl,hs]
 ·intro cs eb;simp at eb;subst eb;simp
 ·intro cs eb x hx;simp at eb;subst eb
  obtain⟨c,_,rfl⟩:=List.mem_map.1 hx;exact c.mv
 ·have:=FY hk;simpa using this
 ·intro ι' hι
  have:=dF.ptr (P:=P) (w:=w) (D:=D) (ι:=ι') id 0 0 _ hι rfl
  simpa using this
theorem qj {x:AV} {u:Value} (h:dF P w D ι x u) (hc:x.cells.all AV.cell=true):fo P w D ι x.cells u.cells:=by
 obtain⟨h1,f,h2,h3⟩:=h.cells hc
 exact⟨h1,fun j a ha=>⟨f j,h2 j (List.getElem?_eq_some_iff.1 ha).1,h3 j a ha⟩⟩
theorem TJ {t:TypeId} {x:Operand} {x':O} {cs:List AV} (E:db P w D ι env a) (ho:o.op=.box t x) (hx:cO P x=some x') (hb:bZ (cY env x')=some cs):Mk P a o w D ι id (.ptr id 0 0) ⟨true,cs.length,[cs]⟩:=by
 have hr:=dQ E hx
 unfold bZ at hb
 split at hb
 ·rename_i eJ
  simp at hb;subst hb
  have hk:=qj hr eJ
  refine⟨.pointer (some ⟨w.heap.size,0,none⟩),(a.eval x).cells,t,?_,rfl,?_,?_,?_,?_,?_⟩
  ·simp only[execOp,ho,Instr.box,Sem.run_bind]
   simp[newVar,newRow]
  ·simp[hk.1]
  ·intro cs eb;simp at eb;subst eb;rfl
  ·intro cs eb y hy;simp at eb;subst eb
   exact List.all_eq_true.1 eJ y hy
  ·exact FY hk
  ·intro ι' hι
   have:=dF.ptr (P:=P) (w:=w) (D:=D) (ι:=ι') id 0 0 _ hι rfl
   simpa using this
 ·simp at hb
theorem foldl_set:∀(vs:List Value) (n off:Nat) (cells:Array Value),off+n+vs.length<=cells.size->((vs.zipIdx n).foldl (fun cs (x:Value×Nat)=>cs.setIfInBounds (off+x.2) x.1) cells).size=cells.size/\
  ∀k,((vs.zipIdx n).foldl (fun cs (x:Value×Nat)=>cs.setIfInBounds (off+x.2) x.1) cells)[k]? =if off+n<=k/\k<off+n+vs.length then vs[k-(off+n)]? else cells[k]?
 |[],n,off,cells,_=>⟨rfl,fun k=>by simp;intro h1 h2;omega⟩
 |v::r,n,off,cells,h=>by
  simp only[List.length_cons]at h
  obtain⟨h1,h2⟩:=foldl_set r (n+1) off (cells.setIfInBounds (off+n) v) (by simp;omega)
  simp only[List.zipIdx_cons,List.foldl_cons]
  refine⟨by rw[h1];simp,fun k=>?_⟩
  rw[h2 k]
  simp only[List.length_cons]
  by_cases hk:k=off+n
  ·subst hk
   rw[if_neg ab,if_pos ab]
   simp[show off+n<cells.size by omega]
  ·by_cases tr:off+n<=k/\k<off+n+(r.length+1)
   ·rw[if_pos ab,if_pos tr]
    have:k-(off+n)=(k-(off+(n+1)))+1:=ab
    rw[this,List.getElem?_cons_succ]
   ·rw[if_neg ab,if_neg tr,Array.getElem?_setIfInBounds_ne ab]
theorem vz (place:Nat->Option (Nat×Nat)):∀(ps:List (Nat×Value)) (qs:List (Nat×Nat×AV)) (cells:Array Value) (cs res:List AV),fo P w D ι cs cells->(∀a∈cs,a.cell=true)->ps.length=qs.length->
  (∀(k:Nat) i u o' n x,ps[k]? =some (i,u)->qs[k]? =some (o',n,x)->place i=some (o',n)/\dF P w D ι x u)->bQ cs qs=some res->∃ji,Instr.fill place cells ps=some ji/\fo P w D ι res ji/\(∀a∈res,a.cell=true)/\res.length=cs.length:=by
 intro ps
 induction ps with
 |nil=>
  intro qs cells cs res hR hf hl _ hv
  cases qs with
  |nil=>simp[bQ]at hv;subst hv;exact⟨cells,rfl,hR,hf,rfl⟩
  |cons q r=>simp at hl
 |cons p ps ih=>
  intro qs cells cs res hR hf hl hp hv
  cases qs with
  |nil=>simp at hl
  |cons q qs=>
   obtain⟨i,u⟩:=p
   obtain⟨oo,n,x⟩:=q
   obtain⟨la,hr⟩:=hp 0 i u oo n x rfl rfl
   unfold bQ at hv
   split at hv
   ·rename_i hc
    obtain⟨c1,c2,c3⟩:=hc
    have hk:=qj hr c3
    have QA:u.cells.size=n:=by rw[hk.1,c1]
    have eb:cells.size=cs.length:=hR.1
    unfold Instr.fill
    simp only[la]
    rw[if_neg (by rw[QA,eb];simp;omega)]
    obtain⟨s1,s2⟩:=foldl_set u.cells.toList 0 oo cells (by simp;omega)
    have e0:(u.cells.zipIdx.foldl (fun cs (x:Value×Nat)=>cs.setIfInBounds (oo+x.2) x.1) cells)=(u.cells.toList.zipIdx 0).foldl (fun cs (x:Value×Nat)=>cs.setIfInBounds (oo+x.2) x.1) cells:=by
     rw[<-Array.foldl_toList];simp
    have AO:=ih qs (u.cells.zipIdx.foldl (fun cs (x:Value×Nat)=>cs.setIfInBounds (oo+x.2) x.1) cells) (cs.take oo++x.cells++cs.drop (oo+n)) res ?_ ?_ (by simpa using hl) (fun k i u o' n x h1 h2=>hp (k+1) i u o' n x (by simpa using h1) (by simpa using h2)) hv
    ·obtain⟨ji,h1,h2,h3,h4⟩:=AO
     refine⟨ji,h1,h2,h3,?_⟩
     rw[h4];simp;omega
    ·rw[e0]
     refine⟨by rw[s1,eb];simp;omega,fun j a ha=>?_⟩
     rw[s2 j]
     simp only[Nat.add_zero,Array.length_toList]
     by_cases hj:oo<=j/\j<oo+u.cells.size
     ·rw[if_pos hj]
      rw[List.append_assoc,List.getElem?_append_right (by simp;omega),List.getElem?_append_left (by simp;omega)]at ha
      simp only[List.length_take]at ha
      rw[show min oo cs.length=oo by omega]at ha
      simpa using hk.2 _ _ ha
     ·rw[if_neg hj]
      by_cases Ta:j<oo
      ·rw[List.append_assoc,List.getElem?_append_left (by simp;omega),List.getElem?_take,if_pos Ta]at ha
       exact hR.2 _ _ ha
      ·rw[List.getElem?_append_right (by simp;omega)]at ha
       simp only[List.length_append,List.length_take,List.getElem?_drop]at ha
       rw[show oo+n+(j-(min oo cs.length+x.cells.length))=j by omega]at ha
       exact hR.2 _ _ ha
    ·intro b hb
     rcases List.mem_append.1 hb with hb|hb
     ·rcases List.mem_append.1 hb with hb|hb
      ·exact hf b (List.mem_of_mem_take hb)
      ·exact List.all_eq_true.1 c3 b hb
     ·exact hf b (List.mem_of_mem_drop hb)
   ·simp at hv
theorem xJ {fs:List Field} (h:∀f∈fs,(P.info? f.type).isSome=true):∃places,fs.mapM (fun f=>(P.info? f.type).map fun i=>(f.offset,i.size))=some places/\∀(i:Nat) (f:Field) (n:Nat),fs[i]? =some f->ep P f.type=some n->places[i]? =some (f.offset,n):=by
 induction fs with
 |nil=>exact⟨[],rfl,fun i f n h=>by simp at h⟩
 |cons f r ih=>
  obtain⟨q,h1,h2⟩:=ih (fun x hx=>h x (List.mem_cons_of_mem _ hx))
  obtain⟨i,hi⟩:=Option.isSome_iff_exists.1 (h f (by simp))
  refine⟨(f.offset,i.size)::q,by simp[hi,h1],fun k x n hk hn=>?_⟩
  cases k with
  |zero=>simp at hk;subst hk;simp[ep,hi]at hn;subst hn;rfl
  |succ k=>simp at hk ⊢;exact h2 k x n hk hn
theorem pP {ps:List (Nat×Operand)} {l:List (Nat×O)} (E:db P w D ι env a) (h:ps.mapM (fun(x:Nat×Operand)=>(cO P x.2).map (x.1,·))=some l):l.length=ps.length/\∀(k i:Nat) (y:O),l[k]? =some (i,y)->∃x,ps[k]? =some (i,x)/\cO P x=some y:=by
 induction ps generalizing l with
 |nil=>simp at h;subst h;simp
 |cons p r ih=>
  simp only[List.mapM_cons,Option.bind_eq_bind,Option.bind_eq_some_iff]at h
  obtain⟨c,hc,mA,eb,h⟩:=h
  simp at h;subst h
  obtain⟨h1,h2⟩:=ih eb
  simp only[Option.map_eq_some_iff]at hc
  obtain⟨y,hy,rfl⟩:=hc
  refine⟨by simp[h1],fun k i z hk=>?_⟩
  cases k with
  |zero=>simp at hk;obtain⟨rfl,rfl⟩:=hk;exact⟨p.2,rfl,hy⟩
  |succ k=>simp at hk ⊢;exact h2 k i z hk
theorem Dm {fs:Array Field} {l:List (Nat×O)} {q:List (Nat×Nat×O)} (h:r6 P fs l=some q):q.length=l.length/\∀(k oo n:Nat) (y:O),q[k]? =some (oo,n,y)->∃(i:Nat) (f:Field),l[k]? =some (i,y)/\fs[i]? =some f/\f.offset=oo/\ep P f.type=some n:=by
 induction l generalizing q with
 |nil=>simp[r6]at h;subst h;simp
 |cons p r ih=>
  obtain⟨i,x⟩:=p
  unfold r6 at h
  split at h
  ·rename_i f hf
   split at h
   ·rename_i n hn
    simp only[Option.map_eq_some_iff]at h
    obtain⟨q',JP,rfl⟩:=h
    obtain⟨h1,h2⟩:=ih JP
    refine⟨by simp[h1],fun k oo m y hk=>?_⟩
    cases k with
    |zero=>simp at hk;obtain⟨rfl,rfl,rfl⟩:=hk;exact⟨i,f,rfl,hf,rfl,hn⟩
    |succ k=>simp only[List.getElem?_cons_succ]at hk ⊢;exact h2 k oo m y hk
   ·simp at h
  ·simp at h
theorem fo.agg {xs:List AV} {vs:Array Value} (h:fo P w D ι xs vs) (hf:∀a∈xs,a.cell=true):dF P w D ι (.agg xs) (.agg vs):=
 .agg xs vs (fun j=>vs.getD j undef) h.1 hf (fun j hj=>by
  have:j<vs.size:=by rw[h.1];exact hj
  simp[this]) (fun j a ha=>by
  obtain⟨u,h1,h2⟩:=h.2 j a ha
  simpa[Array.getD_eq_getD_getElem?,h1]using h2)
theorem NM {t:TypeId} {ps:Array (Nat×Operand)} {fs:Array Field} {z:List K} {l:List (Nat×O)} {q:List (Nat×Nat×O)} {cs:List AV} (E:db P w D ι env a) (ho:o.op=.build t ps) (ht:P.underlying t=some (.struct fs)) (hz:jy P t=some z) (hl:r9 P ps=some l)
  (qR:∀f∈fs.toList,(P.info? f.type).isSome=true) (hq:r6 P fs l=some q) (hv:bQ (z.map K.av) (q.map fun(o,n,x)=>(o,n,cY env x))=some cs):nK P a o w D ι (.agg cs):=by
 obtain⟨it,zv,hi,wb,hs,hm,FL⟩:=jJ hz
 obtain⟨places,la,Xd⟩:=xJ qR
 have hk:=kL (P:=P) (w:=w) (D:=D) (ι:=ι) hm
 obtain⟨n1,r1⟩:=pP E hl
 obtain⟨n2,r2⟩:=Dm hq
 obtain⟨ji,h1,h2,h3,_⟩:=vz (P:=P) (w:=w) (D:=D) (ι:=ι) (places.toArray[·]?) (ps.toList.map fun(i,x)=>(i,a.eval x)) (q.map fun(o,n,x)=>(o,n,cY env x)) zv.cells _ cs (by simpa using hk)
  (fun b hb=>by obtain⟨c,_,rfl⟩:=List.mem_map.1 hb;exact c.mv) (by simp[n2,n1]) (fun k i u o' n x yF tr=>by
   simp only[List.getElem?_map,Option.map_eq_some_iff]at yF tr
   obtain⟨⟨i',x'⟩,hp,e1⟩:=yF
   obtain⟨⟨o2,n',y⟩,JP,e2⟩:=tr
   simp only[Prod.mk.injEq]at e1 e2
   obtain⟨rfl,rfl⟩:=e1
   obtain⟨rfl,rfl,rfl⟩:=e2
   obtain⟨i2,f,DV,hf,rfl,hn⟩:=r2 _ _ _ _ JP
   obtain⟨x2,AS,hc⟩:=r1 _ _ _ DV
   rw[hp]at AS
   simp only[Option.some.injEq,Prod.mk.injEq]at AS
   obtain⟨rfl,rfl⟩:=AS
   exact⟨by simpa using Xd _ _ _ (by simpa using hf) hn,dQ E hc⟩) hv
 refine⟨.agg ji,?_,h2.agg h3⟩
 have hb:P.built t ((ps.map fun(i,x)=>(i,a.eval x)).toList)=some ji:=by
  unfold Program.built
  simp only[hi,ht,wb,la]
  simpa using h1
 simp only[execOp,ho,Sem.run_bind,run_build w t _ _ hb,Result.andThen_ok,Sem.run_pure]
theorem Ls {t e:TypeId} {len n:Nat} {ps:Array (Nat×Operand)} {z:List K} {l:List (Nat×O)} {cs:List AV} (E:db P w D ι env a) (ho:o.op=.build t ps) (ht:P.underlying t=some (.array len e)) (hz:jy P t=some z) (hl:r9 P ps=some l) (hn:ep P e=some n)
  (hv:bQ (z.map K.av) ((l.map fun(x:Nat×O)=>(x.1*n,n,x.2)).map fun(o,n,x)=>(o,n,cY env x))=some cs):nK P a o w D ι (.agg cs):=by
 obtain⟨it,zv,hi,wb,hs,hm,FL⟩:=jJ hz
 have hk:=kL (P:=P) (w:=w) (D:=D) (ι:=ι) hm
 obtain⟨n1,r1⟩:=pP E hl
 obtain⟨ie,LB,e8⟩:∃ie,P.info? e=some ie/\ie.size=n:=by simpa[ep]using hn
 obtain⟨ji,h1,h2,h3,_⟩:=vz (P:=P) (w:=w) (D:=D) (ι:=ι) (fun i=>some (i*ie.size,ie.size)) (ps.toList.map fun(i,x)=>(i,a.eval x)) ((l.map fun(x:Nat×O)=>(x.1*n,n,x.2)).map fun(o,n,x)=>(o,n,cY env x)) zv.cells _ cs (by simpa using hk)
  (fun b hb=>by obtain⟨c,_,rfl⟩:=List.mem_map.1 hb;exact c.mv) (by simp[n1]) (fun k i u o' n' x yF tr=>by
   simp only[List.getElem?_map,Option.map_eq_some_iff]at yF tr
   obtain⟨⟨i',x'⟩,hp,e1⟩:=yF
   obtain⟨⟨o2,n2,y⟩,⟨⟨i2,y2⟩,DV,e3⟩,e2⟩:=tr
   simp only[Prod.mk.injEq]at e1 e2 e3
   obtain⟨rfl,rfl⟩:=e1
   obtain⟨rfl,rfl,rfl⟩:=e2
   obtain⟨rfl,rfl,rfl⟩:=e3
   obtain⟨x2,AS,hc⟩:=r1 _ _ _ DV
   rw[hp]at AS
   simp only[Option.some.injEq,Prod.mk.injEq]at AS
   obtain⟨rfl,rfl⟩:=AS
   exact⟨by rw[e8],dQ E hc⟩) hv
 refine⟨.agg ji,?_,h2.agg h3⟩
 have hb:P.built t ((ps.map fun(i,x)=>(i,a.eval x)).toList)=some ji:=by
  unfold Program.built
  simp only[hi,ht,wb,LB]
  simpa using h1
 simp only[execOp,ho,Sem.run_bind,run_build w t _ _ hb,Result.andThen_ok,Sem.run_pure]
theorem vp:∀(vs:List AV) (sz i:Nat) (rs:List (List AV)) (cs:List AV),0<sz->cs.length=(i+vs.length)*sz->rowsOf sz vs=some rs->
  bQ cs ((vs.zipIdx i).map fun(v,j)=>(j*sz,sz,v))=some (cs.take (i*sz)++rs.flatten)/\rs.length=vs.length/\(∀c∈rs,c.length=sz)/\∀c∈rs,∀x∈c,x.cell=true
 |[],sz,i,rs,cs,_,hl,h=>by
  simp[rowsOf]at h;subst h
  simp at hl
  simp[bQ,List.take_of_length_le (show cs.length<=i*sz by omega)]
 |v::r,sz,i,rs,cs,e8,hl,h=>by
  simp only[rowsOf,Option.bind_eq_some_iff,Option.map_eq_some_iff]at h
  obtain⟨c,hc,rs',tW,rfl⟩:=h
  unfold rowOf at hc
  split at hc
  ·rename_i SO
   simp at hc;subst hc
   obtain⟨pF,jv⟩:=SO
   simp only[List.length_cons]at hl
   have hmul:(i+(r.length+1))*sz=i*sz+sz+r.length*sz:=by rw[Nat.add_mul,Nat.add_mul];omega
   have ih:=vp r sz (i+1) rs' (cs.take (i*sz)++v.cells++cs.drop (i*sz+sz)) e8 (by
    simp[pF];rw[Nat.add_mul,Nat.add_mul];omega) tW
   refine⟨?_,by simp[ih.2.1],?_,?_⟩
   ·simp only[List.zipIdx_cons,List.map_cons,bQ]
    rw[if_pos ⟨pF,ab,jv⟩,ih.1]
    congr 1
    rw[List.flatten_cons,<-List.append_assoc]
    congr 1
    rw[Nat.add_mul,Nat.one_mul,List.take_append_of_le_length (by simp[pF];omega)]
    rw[List.take_of_length_le (by simp[pF];omega)]
   ·intro c' j3;rcases List.mem_cons.1 j3 with rfl|j3
    ·exact pF
    ·exact ih.2.2.1 c' j3
   ·intro c' j3;rcases List.mem_cons.1 j3 with rfl|j3
    ·exact List.all_eq_true.1 jv
    ·exact ih.2.2.2 c' j3
  ·simp at hc
theorem flat_get {α:Type} {oa:List (List α)} {sz:Nat} (h:∀cs∈oa,cs.length=sz) {i j:Nat} {cs:List α} {a:α} (hi:oa[i]? =some cs) (hj:cs[j]? =some a):oa.flatten[i*sz+j]? =some a:=by
 induction oa generalizing i with
 |nil=>simp at hi
 |cons c r ih=>
  have hc:c.length=sz:=h c (by simp)
  cases i with
  |zero=>
   simp at hi;subst hi
   have eR:=(List.getElem?_eq_some_iff.1 hj).1
   rw[List.flatten_cons,List.getElem?_append_left ab];simpa using hj
  |succ i=>
   rw[List.flatten_cons,List.getElem?_append_right (by rw[hc,Nat.succ_mul];omega)]
   have:(i+1)*sz+j-c.length=i*sz+j:=by rw[hc,Nat.succ_mul];omega
   rw[this]
   exact ih (fun cs eb=>h cs (List.mem_cons_of_mem _ eb)) (by simpa using hi)
theorem Jk {α:Type} {oa:List (List α)} {sz:Nat} (h:∀cs∈oa,cs.length=sz):oa.flatten.length=oa.length*sz:=by
 induction oa with
 |nil=>simp
 |cons c r ih=>
  rw[List.flatten_cons,List.length_append,h c (by simp),ih (fun cs eb=>h cs (List.mem_cons_of_mem _ eb)),List.length_cons,Nat.succ_mul];omega
theorem oU {zv:Value} {z:List K} {n:Nat} (hm:zv.cells.toList.mapM Ha=some z) (kq:0<z.length):∀k,k<n->∃c,z[k % z.length]? =some c/\((Array.range n).map (zv.cells[· % zv.cells.size]!))[k]? =some c.val:=by
 intro k hk
 obtain⟨h1,h2⟩:=rf hm
 have e8:zv.cells.size=z.length:=by simpa using h1.symm
 have eR:k % z.length<z.length:=Nat.mod_lt _ kq
 refine⟨z[k % z.length],List.getElem?_eq_getElem eR,?_⟩
 have h3:=h2 _ _ (List.getElem?_eq_getElem eR)
 simp only[Array.getElem?_toList]at h3
 have BT:k % z.length<zv.cells.size:=by rw[e8];exact eR
 rw[Array.getElem?_map,Array.getElem?_range,if_pos hk]
 simp only[Option.map_some]
 rw[e8,getElem!_pos zv.cells (k % z.length) BT]
 rw[Array.getElem?_eq_getElem BT]at h3
 exact h3
theorem Kf {t e:TypeId} {len sz:Nat} {ps:Array (Nat×Operand)} {z:List K} {l:List (Nat×O)} {rs:List (List AV)} (E:db P w D ι env a) (ho:o.op=.buildSlice t len ps) (ht:P.underlying t=some (.slice e)) (e8:ep P e=some (sz+1)) (hz:jy P e=some z)
  (hl:r9 P ps=some l) (Qt:len*(sz+1)<=4096) (Tu:l.map (·.1)=List.range len) (hv:rowsOf (sz+1) (l.map fun x=>cY env x.2)=some rs):Mk P a o w D ι id (.own id 0 len) ⟨true,sz+1,rs⟩:=by
 obtain⟨it,zv,hi,wb,hs,hm,FL⟩:=jJ hz
 have jw:it.size=sz+1:=by simpa[ep,hi]using e8
 obtain⟨n1,r1⟩:=pP E hl
 have Qi:l.length=len:=by have:=congrArg List.length Tu;simpa using this
 by_cases h0:len=0
 ·subst h0
  have LH:l=[]:=List.length_eq_zero_iff.1 Qi
  subst LH
  simp[rowsOf]at hv;subst hv
  have Vk:ps= #[]:=by
   apply Array.ext';apply List.eq_nil_of_length_eq_zero;rw[<-n1];rfl
  subst Vk
  refine⟨.slice (some ⟨w.heap.size,0,none⟩) 0 0, #[],e,?_,rfl,by simp,by simp,by simp,fun i j cs x hi=>by simp at hi,fun ι' hι=>?_⟩
  ·simp[execOp,ho,Instr.buildSlice,run_underlying ht,sizeOf,typeInfo,hi,Instr.fill,newRow,Array.range_zero']
  ·exact .own _ 0 0 0 0 _ hι rfl (Nat.le_refl _) (.inl rfl) (by simp) (by simp[maxLen])
 ·have xu:fo P w D ι ((List.range (len*(sz+1))).map fun k=>(z.getD (k % z.length) .bB).av) ((Array.range (len*(sz+1))).map (zv.cells[· % zv.cells.size]!)):=by
   refine⟨by simp,fun j x hx=>?_⟩
   simp only[List.getElem?_map,Option.map_eq_some_iff]at hx
   obtain⟨k,hk,rfl⟩:=hx
   have ko:=(List.getElem?_eq_some_iff.1 hk).1
   simp at ko
   rw[List.getElem?_range ko]at hk
   injection hk with hk
   subst hk
   obtain⟨c,hc,P9⟩:=oU hm (by rw[FL,jw];omega) j ko
   exact⟨c.val,P9,by rw[List.getD_eq_getElem?_getD,hc];exact wW c⟩
  obtain⟨f1,f2,f3,f4⟩:=vp (l.map fun x=>cY env x.2) (sz+1) 0 rs ((List.range (len*(sz+1))).map fun k=>(z.getD (k % z.length) .bB).av) ab (by simp[Qi]) hv
  obtain⟨ji,h1,h2,h3,h4⟩:=vz (P:=P) (w:=w) (D:=D) (ι:=ι) (fun i=>some (i*it.size,it.size)) (ps.toList.map fun(i,x)=>(i,a.eval x)) _ _ _ _ xu
   (fun b hb=>by obtain⟨c,_,rfl⟩:=List.mem_map.1 hb;exact K.mv _) (by simp[n1]) (fun k i u o' n x yF tr=>by
   simp only[List.getElem?_map,Option.map_eq_some_iff]at yF tr
   obtain⟨⟨i',x'⟩,hp,e1⟩:=yF
   obtain⟨⟨v2,j2⟩,JP,e2⟩:=tr
   simp only[Prod.mk.injEq]at e1 e2
   obtain⟨rfl,rfl⟩:=e1
   obtain⟨rfl,rfl,rfl⟩:=e2
   rw[List.getElem?_zipIdx]at JP
   simp only[List.getElem?_map,Option.map_map,Option.map_eq_some_iff,Function.comp_apply,Prod.mk.injEq,Nat.zero_add]at JP
   obtain⟨⟨i2,y⟩,DV,rfl,rfl⟩:=JP
   obtain⟨x2,AS,hc⟩:=r1 _ _ _ DV
   rw[hp]at AS
   simp only[Option.some.injEq,Prod.mk.injEq]at AS
   obtain⟨rfl,rfl⟩:=AS
   have C0:(l.map (·.1))[k]? =some i':=by rw[List.getElem?_map,DV];rfl
   have ko:=(List.getElem?_eq_some_iff.1 C0).1
   rw[Tu]at C0
   simp at ko
   rw[List.getElem?_range ab]at C0
   injection C0 with C0
   subst C0
   exact⟨by rw[jw],dQ E hc⟩) f1
  simp only[Nat.zero_mul,List.take_zero,List.nil_append,List.length_map]at h2 h3 h4 f2
  have eb:ji.size=len*(sz+1):=by rw[h2.1,h4];simp
  refine⟨.slice (some ⟨w.heap.size,0,none⟩) len len,ji,e,?_,rfl,?_,f3,f4,fun i j cs x pG hj=>h2.2 _ _ (flat_get f3 pG hj),fun ι' hι=>?_⟩
  ·have fG:=run_buildSlice (P:=P) w t e len (ps.map fun(i,x)=>(i,a.eval x)) ji it zv ht hi wb (by rw[jw];omega) (by rw[jw];exact Nat.mul_ne_zero h0 ab) (by rw[<-jw]at h1;simpa using h1)
   simp only[execOp,ho,Sem.run_bind,fG,Result.andThen_ok,Sem.run_pure]
  ·dsimp only;rw[f2,Qi,eb];exact Nat.le_refl _
  ·refine .own _ 0 len 0 len _ hι rfl (Nat.le_refl _) (.inr (by simp)) ?_ (by simp only[maxLen];have:=Nat.le_mul_of_pos_right len (show 0<sz+1 by omega);omega)
   dsimp only;rw[eb];simp
theorem Ho {t e:TypeId} {it:TypeInfo} {m:Nat} {z:List K} {l c:Operand} {l' c':O} {n:Nat} {r:Row} (E:db P w D ι env a) (ho:o.op=.makeSlice t l c) (ht:P.underlying t=some (.slice e)) (e8:ep P e=some (m+1)) (hz:jy P e=some z) (Ii:P.info? e=some it) (hby:it.bytes<=32768)
  (hl:cO P l=some l') (hc:cO P c=some c') (hv:eP z (cY env l') (cY env c')=some (n,r)):Mk P a o w D ι id (.own id 0 n) r:=by
 obtain⟨it',zv,hi,wb,hs,hm,FL⟩:=jJ hz
 rw[Ii]at hi;injection hi with hi;subst hi
 have jw:it.size=m+1:=by simpa[ep,Ii]using e8
 unfold eP at hv
 split at hv
 ·rename_i k1 ln k2 cn e1 e2
  split at hv
  ·rename_i hb
   obtain⟨b1,b2,b3⟩:=hb
   simp at hv
   obtain⟨rfl,rfl⟩:=hv
   have r1:=dO (e1▸dQ E hl)
   have r2:=dO (e2▸dQ E hc)
   unfold cZ at b3
   have CZ:(it.bytes:Int)*cn<=281474976710656:=by
    have h1:(it.bytes:Int)<=32768:=ab
    have h2:(it.bytes:Int)*cn<=32768*16777216:=Int.mul_le_mul h1 ab ab ab
    omega
   have fG:=run_make (P:=P) w t e it zv ht Ii wb k1 k2 ln cn b1 b2 CZ ab
   have kn:∀k,k<cn.toNat*it.size->∃x,z[k % z.length]? =some x/\(madeCells zv.cells (cn.toNat*it.size))[k]? =some x.val:=fun k hk=>oU hm (by rw[FL,jw];omega) k hk
   refine⟨.slice (some ⟨w.heap.size,0,none⟩) ln.toNat cn.toNat,madeCells zv.cells (cn.toNat*it.size),e,by simp only[execOp,ho,r1,r2,Sem.run_bind,fG,Result.andThen_ok,Sem.run_pure],rfl,?_,?_,?_,?_,fun ι' hι=>?_⟩
   ·simp only[List.length_replicate,size_madeCells,FL]
    exact Nat.mul_le_mul_right _ ab
   ·intro cs eb
    have:=List.eq_of_mem_replicate eb
    subst this;simp
   ·intro cs eb x hx
    have:=List.eq_of_mem_replicate eb
    subst this
    obtain⟨c,_,rfl⟩:=List.mem_map.1 hx;exact c.mv
   ·intro i j cs x pG hj
    have qp:=(List.getElem?_eq_some_iff.1 pG).1
    have:=List.eq_of_mem_replicate (List.mem_of_getElem? pG)
    subst this
    simp only[List.length_replicate]at qp
    simp only[List.getElem?_map,Option.map_eq_some_iff]at hj
    obtain⟨q,hq,rfl⟩:=hj
    have iZ:=(List.getElem?_eq_some_iff.1 hq).1
    dsimp only
    obtain⟨x,hx,AS⟩:=kn (i*z.length+j) (by
     rw[<-FL]
     calc i*z.length+j<i*z.length+z.length:=ab
      _=(i+1)*z.length:=by rw[Nat.add_mul,Nat.one_mul]
      _<=cn.toNat*z.length:=Nat.mul_le_mul_right _ ab)
    rw[Nat.mul_comm i,Nat.mul_add_mod,Nat.mod_eq_of_lt iZ,hq]at hx
    injection hx with hx;subst hx
    exact⟨_,by rw[Nat.mul_comm i]at AS ⊢;exact AS,wW q⟩
   ·refine .own _ 0 _ 0 _ _ hι rfl ab (.inr (by simp)) ?_ (by simp only[maxLen];omega)
    dsimp only;rw[size_madeCells,FL];simp
  ·simp at hv
 ·simp at hv
end
end Go.Proofs.YtakkdjfmiffbfaaGreatDoor.V

namespace Go.Proofs.YtakkdjfmiffbfaaGreatDoor.V
open Go.RowKit
variable {P:Program} {w w':World} {D D':Nat->Prop} {ι ι':Names}
def E0 (P:Program) (k:TypeId) (m:MK):Prop:=
 (∃s,m=⟨false,[s]⟩/\fD P k=some s)∨
 (∃fs ts,m=⟨true,ts⟩/\P.underlying k=some (.struct fs)/\eM P 4 0 fs.toList=some ts/\P.stoodInHeld k=false/\∀f∈fs.toList,(fD P f.type).isSome=true)
theorem qC {t:TypeId} {m:MK} {z:K} (h:r8 P t=some (m,z)):∃k e i zv,P.underlying t=some (.map k e)/\P.info? e=some i/\i.zero=some zv/\Ha zv=some z/\E0 P k m:=by
 unfold r8 at h
 split at h
 ·rename_i k e ht
  split at h
  ·rename_i zv s h1 h2 h3
   simp only[Option.map_eq_some_iff,Prod.mk.injEq]at h
   obtain⟨z',hz,rfl,rfl⟩:=h
   simp only[Option.bind_eq_some_iff]at h2
   obtain⟨i,hi,wb⟩:=h2
   exact⟨k,e,i,zv,ht,hi,wb,hz,.inl ⟨s,rfl,h3⟩⟩
  ·rename_i zv fs h1 h2 h3 h4
   split at h
   ·rename_i ts z' tx hz
    split at h
    ·rename_i hc
     simp only[Option.some.injEq,Prod.mk.injEq]at h
     obtain⟨rfl,rfl⟩:=h
     simp only[Option.bind_eq_some_iff]at h2
     obtain⟨i,hi,wb⟩:=h2
     simp only[Bool.not_eq_true',List.all_eq_true]at hc
     exact⟨k,e,i,zv,ht,hi,wb,hz,.inr ⟨fs,ts,rfl,h4,tx,hc.1,hc.2⟩⟩
    ·cases h
   ·cases h
  ·cases h
 ·cases h
theorem w7 {t:TypeId} {s:TS} (ht:fD P t=some s) (em:Bool) (n:Nat) (v:Value):(Instr.checkKey em (n+1) t v).run P w=.ok () w:=by
 unfold Instr.checkKey
 cases s with
 |tB=>simp[run_underlying (ph ht)]
 |tS=>simp[run_underlying (pk ht)]
 |tI=>
  obtain⟨q,hq⟩:=pj ht
  simp[run_underlying hq]
theorem w8 (em:Bool) (n:Nat) (vs:Array Value):∀(d:Nat) (fs:List Field) (off:Nat) (ts:List TS),eM P (d+1) off fs=some ts->(∀f∈fs,(fD P f.type).isSome=true)->off+ts.length<=vs.size->
  Sem.run P (forIn fs PUnit.unit fun f (_:PUnit)=>if f.name≠ "_" then do
    let x <-Go.part f.type vs f.offset
    Instr.checkKey em (n+1) f.type x
    pure (ForInStep.yield PUnit.unit)
   else pure (ForInStep.yield PUnit.unit)) w=Result.ok PUnit.unit w
 |d,[],off,ts,_,_,_=>by simp
 |d,f::r,off,ts,hf,hs,hl=>by
  rw[yp]at hf
  split at hf
  ·rename_i hcond
   obtain⟨ho,ig⟩:=hcond
   split at hf
   ·rename_i s ML
    split at hf
    ·rename_i tn
     simp only[Option.map_eq_some_iff]at hf
     obtain⟨LL,hr,rfl⟩:=hf
     simp only[List.length_cons]at hl
     have ih:=w8 em n vs d r (off+1) LL hr (fun f hf=>hs f (List.mem_cons_of_mem _ hf)) ab
     have hu:vs[off]? =some vs[off]:=by simp
     simp only[List.forIn_cons,Sem.run_bind,if_pos ig,ho,mb tn hu,Result.andThen_ok,w7 ML,Sem.run_pure]
     exact ih
    ·cases hf
   ·rename_i hn
    have:=hs f (by simp)
    rw[hn]at this;cases this
  ·cases hf
theorem EB {k:TypeId} {m:MK} (hk:E0 P k m) (em:Bool) (key:AV) (u:Value) (tn:key.isAgg=m.ka) (hlen:key.cells.length=m.ks) (hr:dF P w D ι key u):(Instr.checkKey em 10000 k u).run P w=.ok () w:=by
 rcases hk with⟨s,rfl,hs⟩|⟨fs,ts,rfl,qR,tx,ee,eJ⟩
 ·exact w7 hs em 9999 u
 ·cases key<;>simp[AV.isAgg]at tn
  rename_i cs
  obtain⟨vs,f,rfl,h1,_⟩:=iw hr
  unfold Instr.checkKey
  simp only[Sem.run_bind,run_underlying qR,Result.andThen_ok]
  rw[<-Array.forIn_toList]
  have h:=w8 (P:=P) (w:=w) em 9998 vs 3 fs.toList 0 ts tx eJ (by simp[AV.cells,MK.ks]at hlen;omega)
  rw[h]
  rfl
theorem IM (a b:ByteArray):(a==b)=decide (a=b):=by
 by_cases h:a=b
 ·subst h;rw[decide_eq_true rfl]
  obtain⟨x⟩:=a
  show(x==x)=true
  simp
 ·rw[decide_eq_false h,Bool.eq_false_iff]
  intro hc
  obtain⟨x⟩:=a
  obtain⟨y⟩:=b
  exact h (by rw[show x=y by simpa using(show(x==y)=true from hc)])
theorem KV {t:TypeId} {s:TS} {x y:AV} {u v:Value} {b:Bool} {d:TypeDesc} (ht:fD P t=some s) (hd:P.underlying t=some d) (he:eA s x y=some b) (hx:dF P w D ι x u) (hy:dF P w D ι y v):Instr.sameNow d u v=some b:=by
 unfold eA at he
 split at he
 ·rename_i k n k' n'
  split at he
  ·rename_i hk
   subst hk
   simp at he;subst he
   obtain⟨q,hq⟩:=pj ht
   rw[hd]at hq;injection hq with hq;subst hq
   rw[dO hx,dO hy]
   simp[Instr.sameNow]
   rfl
  ·cases he
 ·simp at he;subst he
  have hq:=ph ht
  rw[hd]at hq;injection hq with hq;subst hq
  rw[fm hx,fm hy];rfl
 ·rename_i a c
  simp at he;subst he
  have hq:=pk ht
  rw[hd]at hq;injection hq with hq;subst hq
  rw[fM hx,fM hy]
  simp only[Instr.sameNow,IM]
 ·cases he
def Found (es:List MapEntry) (i:Nat) (r:Option Nat) (res:Option (Nat×Value)):Prop:=(r=none/\res=none)∨∃j e,r=some (i+j)/\es[j]? =some e/\res=some (i+j,e.val)
theorem vG {e:MapEntry} {es:List MapEntry} {i:Nat} {r:Option Nat} {res:Option (Nat×Value)} (h:Found es (i+1) r res):Found (e::es) i r res:=by
 rcases h with h|⟨j,x,h1,h2,h3⟩
 ·exact .inl h
 ·exact .inr ⟨j+1,x,by rw[h1];congr 1;omega,by simpa using h2,by rw[h3];congr 2;omega⟩
theorem By {t:TypeId} {s:TS} {d:TypeDesc} {x:AV} {u:Value} (ht:fD P t=some s) (hd:P.underlying t=some d) (hx:dF P w D ι x u):∀(rows:List (List AV)) (es:List MapEntry) (i:Nat) (r:Option Nat),es.length=rows.length->
  (∀(j:Nat) (cs:List AV),rows[j]? =some cs->∃(e:MapEntry) (kv:AV),es[j]? =some e/\cs.head? =some kv/\dF P w D ι kv e.key)->fB ⟨false,[s]⟩ [x] rows i=some r->∃res,Instr.findNow d u es i=some res/\Found es i r res
 |[],[],i,r,_,_,h=>by
  simp[fB]at h;subst h
  exact⟨none,rfl,.inl ⟨rfl,rfl⟩⟩
 |[],e::es,i,r,hl,_,h=>by simp at hl
 |cs::rows,[],i,r,hl,_,h=>by simp at hl
 |cs::rows,e::es,i,r,hl,hr,h=>by
  obtain⟨e',kv,Ig,hk,hZ⟩:=hr 0 cs rfl
  simp at Ig;subst Ig
  have eb:cs.take (MK.ks ⟨false,[s]⟩)=[kv]:=by
   cases cs with
   |nil=>simp at hk
   |cons a l=>simp at hk;subst hk;simp[MK.ks]
  unfold fB at h
  rw[eb]at h
  cases hq:eA s x kv with
  |none=>simp[ed,hq]at h
  |some b=>
   have hs:=KV ht hd hq hx hZ
   cases b with
   |true=>
    simp[ed,hq]at h;subst h
    exact⟨some (i,e.val),by simp[Instr.findNow,hs],.inr ⟨0,e,rfl,rfl,rfl⟩⟩
   |false=>
    simp[ed,hq]at h
    obtain⟨res,h1,h2⟩:=By ht hd hx rows es (i+1) r (by simpa using hl) (fun j cs hj=>hr (j+1) cs (by simpa using hj)) h
    exact⟨res,by simp[Instr.findNow,hs,h1],vG h2⟩
theorem pN {t:TypeId} {fs:Array Field} {ts:List TS} {xs ys:List AV} {vs us:Array Value} {b:Bool} (qR:P.underlying t=some (.struct fs)) (ee:P.stoodInHeld t=false) (tx:eM P 4 0 fs.toList=some ts) (hx:fo P w D ι xs vs) (hy:fo P w D ι ys us) (hv:ed ts xs ys=some b):(Op.equal t (.agg vs) (.agg us)).run P w=.ok b w:=by
 obtain⟨l1,l2⟩:=qK hv
 have q:=rE (w:=w) 4 fs.toList 0 ts tx 9998 ab xs ys vs us b hx hy (by simpa[List.take_of_length_le,l1,l2]using hv)
 have JE:P.fieldsOf t=fs:=by simp[Program.fieldsOf,qR]
 unfold Op.equal
 rw[show Op.maxDepth=9999+1 from rfl,run_equalIn_struct w 9999 t _ _ (by rw[JE];exact qR) ee,JE,q]
theorem rC {cs:List AV} {v:Value} (h:dF P w D ι (.agg cs) v):∃vs,v=.agg vs/\fo P w D ι cs vs:=by
 obtain⟨vs,f,rfl,n1,_,f1,r1⟩:=iw h
 exact⟨vs,rfl,n1,fun j a ha=>⟨f j,f1 j (List.getElem?_eq_some_iff.1 ha).1,r1 j a ha⟩⟩
theorem Bw {t:TypeId} {fs:Array Field} {ts:List TS} {xs:List AV} {vs:Array Value} (qR:P.underlying t=some (.struct fs)) (ee:P.stoodInHeld t=false) (tx:eM P 4 0 fs.toList=some ts) (hx:fo P w D ι xs vs):∀(rows:List (List AV)) (es:List MapEntry) (i:Nat) (r:Option Nat),es.length=rows.length->
  (∀(j:Nat) (cs:List AV),rows[j]? =some cs->∃e:MapEntry,es[j]? =some e/\dF P w D ι (.agg (cs.take ts.length)) e.key)->fB ⟨true,ts⟩ xs rows i=some r->∃res,(Instr.findAsking t (.agg vs) es i).run P w=.ok res w/\Found es i r res
 |[],[],i,r,_,_,h=>by
  simp[fB]at h;subst h
  exact⟨none,by simp[Instr.findAsking],.inl ⟨rfl,rfl⟩⟩
 |[],e::es,i,r,hl,_,h=>by simp at hl
 |cs::rows,[],i,r,hl,_,h=>by simp at hl
 |cs::rows,e::es,i,r,hl,hr,h=>by
  obtain⟨e',Ig,hZ⟩:=hr 0 cs rfl
  simp at Ig;subst Ig
  obtain⟨us,hk,hy⟩:=rC hZ
  unfold fB at h
  simp only[MK.ks]at h
  split at h
  ·rename_i hq
   simp at h;subst h
   have q:=pN qR ee tx hx hy hq
   exact⟨some (i,e.val),by simp[Instr.findAsking,hk,q],.inr ⟨0,e,rfl,rfl,rfl⟩⟩
  ·rename_i hq
   have q:=pN qR ee tx hx hy hq
   obtain⟨res,h1,h2⟩:=Bw qR ee tx hx rows es (i+1) r (by simpa using hl) (fun j cs hj=>hr (j+1) cs (by simpa using hj)) h
   exact⟨res,by simp[Instr.findAsking,hk,q,h1],vG h2⟩
  ·cases h
theorem vh {a:AV} (h:a.isAgg=false):a.cells=[a]:=by cases a<;>simp_all [AV.isAgg,AV.cells]
theorem vD {k:TypeId} {m:MK} {B:rZ} {r:Row} (hk:E0 P k m) {key:AV} {u:Value} (hr:dF P w D ι key u) {es:Array MapEntry} (e8:es.size=r.rows.length)
  (hM:∀(i:Nat) (cs:List AV),r.rows[i]? =some cs->∃(e:MapEntry) (kv vv:AV),es[i]? =some e/\part m.ka m.ks cs=some kv/\cs[m.ks]? =some vv/\dF P w D ι kv e.key/\dF P w D ι vv e.val) {fi:Option Nat} (h:fb m key r.rows=some fi):
  (∀em,(Instr.checkKey em 10000 k u).run P w=.ok () w)/\∃res,(Instr.findKey k u es.toList).run P w=.ok res w/\Found es.toList 0 fi res:=by
 unfold fb at h
 split at h
 ·rename_i hc
  obtain⟨c1,c2,c3⟩:=hc
  refine⟨fun em=>EB hk em key u c1 c2 hr,?_⟩
  rcases hk with⟨s,rfl,hs⟩|⟨fs,ts,rfl,qR,tx,ee,eJ⟩
  ·rw[vh c1]at h
   have hd:∃d,P.underlying k=some d:=by
    cases s with
    |tB=>exact⟨_,ph hs⟩
    |tS=>exact⟨_,pk hs⟩
    |tI=>obtain⟨q,hq⟩:=pj hs;exact⟨_,hq⟩
   obtain⟨d,hd⟩:=hd
   obtain⟨res,h1,h2⟩:=By hs hd hr r.rows es.toList 0 fi (by simpa using e8) (fun j cs hj=>by
    obtain⟨e,kv,vv,q1,q2,_,q4,_⟩:=hM j cs hj
    exact⟨e,kv,by simpa using q1,by simpa[part]using q2,q4⟩) h
   exact⟨res,by simp[Instr.findKey,run_underlying hd,h1],h2⟩
  ·cases key<;>simp[AV.isAgg]at c1
   rename_i cs
   obtain⟨vs,rfl,hL⟩:=rC hr
   obtain⟨res,h1,h2⟩:=Bw qR ee tx hL r.rows es.toList 0 fi (by simpa using e8) (fun j cs hj=>by
    obtain⟨e,kv,vv,q1,q2,_,q4,_⟩:=hM j cs hj
    unfold part at q2
    simp only[if_true]at q2
    split at q2
    ·simp only[Option.some.injEq]at q2;subst q2
     exact⟨e,by simpa using q1,q4⟩
    ·cases q2) h
   exact⟨res,(run_findKey_eq w (by simp[qR]) _ _).trans h1,h2⟩
 ·cases h
section
variable {g:Rows} {hs:Nat} {env:Env} {a:Act} {o:Oper} {id:Id} {v:AV}
theorem Am {m:MK} {x:AV} {u:Value} {p:Id×Row} (S:fY P hs D ι g w) (hr:dF P w D ι x u) (h:dh g m x=some p):∃B,u=.map (some B.b)/\g p.1=some p.2/\ι p.1=some B/\B.k=some (.map m)/\NZ P w D ι B m p.2:=by
 unfold dh at h
 split at h
 ·rename_i i m'
  split at h
  ·rename_i hm
   subst hm
   simp only[Option.map_eq_some_iff]at h
   obtain⟨r,hg,rfl⟩:=h
   obtain⟨B,rfl,hB,hk⟩:=Az hr
   obtain⟨B',ei,R,_⟩:=S.row i r hg
   rw[hB]at ei;injection ei with ei;subst ei
   exact⟨B,rfl,hg,hB,hk,(R.map _ hk).2⟩
  ·cases h
 ·cases h
theorem Rm {t:TypeId} {x k:Operand} {ok:Bool} {m:MK} {z:K} {x' k':O} {mr:Option Row} (S:fY P hs D ι g w) (E:db P w D ι env a) (ho:o.op=.lookup t x k ok) (hc:r8 P t=some (m,z)) (hx:cO P x=some x') (hk:cO P k=some k')
  (hv:bd (.look m ok z) [cY env x',cY env k'] g id=some (v,mr)):mr=none/\nK P a o w D ι v:=by
 obtain⟨kt,e,i,zv,ht,hi,wb,Vf,hK⟩:=qC hc
 simp only[bd,Option.bind_eq_some_iff,Option.map_eq_some_iff,Prod.mk.injEq]at hv
 obtain⟨p,hp,fi,xL,y,hy,rfl,rfl⟩:=hv
 obtain⟨B,hu,hg,hB,uq,es,clock,hb,e8,hlen,hM⟩:=Am S (dQ E hx) hp
 obtain⟨P6,res,hf,hF⟩:=vD (B:=B) hK (dQ E hk) e8 hM xL
 have key:∃val,(match res with|some (_,v)=>(v,true)|none=>(zv,false))=(val,fi.isSome)/\dF P w D ι y val:=by
  rcases hF with⟨rfl,rfl⟩|⟨j,en,rfl,he,rfl⟩
  ·simp only[di,Option.some.injEq]at hy;subst hy
   refine⟨zv,rfl,?_⟩
   rw[Aj Vf];exact wW z
  ·simp only[di,Option.bind_eq_some_iff,Nat.zero_add]at hy
   obtain⟨cs,eb,hy⟩:=hy
   obtain⟨e',kv,vv,q1,_,q3,_,q5⟩:=hM _ cs eb
   rw[hy]at q3;injection q3 with q3;subst q3
   have:e'=en:=by
    have h1:es.toList[j]? =some e':=by simpa using q1
    rw[he]at h1;injection h1 with h1;exact h1.symm
   subst this
   exact⟨_,rfl,q5⟩
 obtain⟨val,wa,nN⟩:=key
 have jl:(getObj B.b).run P w=.ok (.map es clock) w:=MapKept.run_getObj_map hb
 have hz:(zeroValue e).run P w=.ok zv w:=by simp[zeroValue,typeInfo,hi,wb]
 refine⟨rfl,if ok then .tuple #[val,.bool fi.isSome]else val,?_,?_⟩
 ·simp only[execOp,ho,hu,Instr.lookup,Sem.run_bind,run_underlying ht,Result.andThen_ok,jl,Sem.run_pure,P6,hf]
  rcases hF with⟨rfl,rfl⟩|⟨j,en,rfl,he,rfl⟩
  ·simp only[Prod.mk.injEq]at wa
   simp[hz,wa.1]
  ·simp only[Prod.mk.injEq]at wa
   simp[wa.1]
 ·cases ok with
  |false=>exact nN
  |true=>
   refine .fK _ _ (fun j=>if j=0 then val else .bool fi.isSome) rfl (fun j hj=>?_) (fun j b hj=>?_)
   ·have:j=0∨j=1:=by simp at hj;omega
    rcases this with rfl|rfl<;>rfl
   ·match j,hj with
    |0,hj=>simp at hj;subst hj;exact nN
    |1,hj=>simp at hj;subst hj;exact .eG _ _ (.bool _)
    |j+2,hj=>simp at hj
theorem Rp {t:TypeId} {x:Operand} {m:MK} {z:K} {x':O} {mr:Option Row} (S:fY P hs D ι g w) (E:db P w D ι env a) (ho:o.op=.call {callee:=.builtin .len,args:= #[x],argTypes:= #[t]}) (hc:r8 P t=some (m,z)) (hx:cO P x=some x')
  (hv:bd (.len m) [cY env x'] g id=some (v,mr)):mr=none/\nK P a o w D ι v:=by
 obtain⟨kt,e,i,zv,ht,hi,wb,Vf,hK⟩:=qC hc
 simp only[bd,Option.map_eq_some_iff,Prod.mk.injEq]at hv
 obtain⟨p,hp,rfl,rfl⟩:=hv
 obtain⟨B,hu,hg,hB,uq,es,clock,hb,e8,hlen,hM⟩:=Am S (dQ E hx) hp
 have jl:(getObj B.b).run P w=.ok (.map es clock) w:=MapKept.run_getObj_map hb
 refine⟨rfl,.int .i64 (es.size:Int),?_,by rw[e8];exact .eG _ _ (.int _ _)⟩
 simp only[execOp,ho,resolve,Sem.run_bind,Sem.run_pure,Result.andThen_ok,invoke,builtin,Array.map,hu]
 simp[Builtin.len_,run_underlying ht,goInt,hu,jl]
def MkM (P:Program) (a:Act) (o:Oper) (w:World) (id:Id) (v:AV) (r:Row):Prop:=
 ∃m,(execOp a.eval o).run P w=.ok (.value (.map (some w.heap.size))) (w.alloc (.map #[] 0))/\v=.map id m/\r=⟨true,m.j5,[]⟩
theorem TK {t:TypeId} {m:MK} (ho:o.op=.makeMap t none):MkM P a o w id (.map id m) ⟨true,m.j5,[]⟩:=by
 refine⟨m,?_,rfl,rfl⟩
 simp[execOp,ho,Instr.makeMap,go_sem]
def MkC (P:Program) (a:Act) (o:Oper) (w:World) (id:Id) (v:AV) (r:Row):Prop:=
 ∃n,(execOp a.eval o).run P w=.ok (.value (.chan (some w.heap.size))) (w.alloc (.chan n #[] false 0 0 false))/\v=.qF id/\r=⟨true,qH+n,[]⟩
theorem QM {t e:TypeId} {x:Operand} {x':O} {dir:ChanDir} {i:TypeInfo} {n:Nat} (E:db P w D ι env a) (ho:o.op=.makeChan t x) (ht:P.underlying t=some (.chan dir e)) (hi:P.info? e=some i) (hb:i.bytes<=32768) (hx:cO P x=some x') (hn:cz (cY env x')=some n):MkC P a o w id (.qF id) ⟨true,qH+n,[]⟩:=by
 refine⟨n,?_,rfl,rfl⟩
 have hr:=dQ E hx
 unfold cz at hn
 split at hn
 ·rename_i k m hm
  rw[hm]at hr
  split at hn
  ·rename_i hc
   simp only[Option.some.injEq]at hn
   subst hn
   have Vh:((m.toNat:Nat):Int)=m:=ab
   have eR:(i.bytes:Int)*(m.toNat:Nat)<=281474976710544:=by
    have h1:i.bytes*m.toNat<=32768*1048576:=Nat.mul_le_mul hb ab
    have h2:((i.bytes*m.toNat:Nat):Int)<=281474976710544:=ab
    rwa [Int.natCast_mul]at h2
   have h:=Conc.run_makeChan (P:=P) (w:=w) ht hi k m.toNat ab eR
   rw[Vh]at h
   simp only[execOp,ho,dO hr,Sem.run_bind,h,Result.andThen_ok,Sem.run_pure]
  ·cases hn
 ·cases hn
theorem zK {x:AV} {u:Value} {i:Id} {r:Row} (S:fY P hs D ι g w) (hr:dF P w D ι x u) (hx:x=.qF i) (hg:g i=some r):∃B c,u=.chan (some B.b)/\ι i=some B/\B.k=some (.chan c)/\r.sz=qH+c/\Iu P w D ι B c r:=by
 subst hx
 obtain⟨B,c,rfl,hB,hk⟩:=Ns hr
 obtain⟨B',ei,R,_⟩:=S.row i r hg
 rw[hB]at ei;injection ei with ei;subst ei
 exact⟨B,c,rfl,hB,hk,R.chan c hk⟩
theorem Rj {t e:TypeId} {dir:ChanDir} {x:Operand} {x':O} (S:fY P hs D ι g w) (E:db P w D ι env a) (ho:o.op=.call {callee:=.builtin .len,args:= #[x],argTypes:= #[t]}) (ht:P.underlying t=some (.chan dir e)) (hx:cO P x=some x') (hv:cu g (cY env x')=some v):nK P a o w D ι v:=by
 have hr:=dQ E hx
 unfold cu at hv
 split at hv
 ·rename_i i he
  simp only[Option.map_eq_some_iff]at hv
  obtain⟨r,hg,rfl⟩:=hv
  obtain⟨B,c,hu,hB,hk,e8,buf,s,q,hb,Lx,_⟩:=zK S hr he hg
  have jl:(getObj B.b).run P w=.ok (.chan c buf false s q false) w:=by simp[getObj,Sem.run,hb]
  refine⟨.int .i64 (buf.size:Int),?_,by rw[Lx];exact .eG _ _ (.int _ _)⟩
  simp only[execOp,ho,resolve,Sem.run_bind,Sem.run_pure,Result.andThen_ok,invoke,builtin,Array.map,hu]
  simp[Builtin.len_,run_underlying ht,goInt,hu,jl]
 ·cases hv
end
end Go.Proofs.YtakkdjfmiffbfaaGreatDoor.V

namespace Go.Proofs.YtakkdjfmiffbfaaGreatDoor.V
open Go.RowKit
variable {P:Program} {w w':World} {D D':Nat->Prop} {ι ι':Names}
def LS (P:Program) (a:Act) (o:Oper) (w:World) (D:Nat->Prop) (ι:Names) (id:Id) (v:AV):Option Row->Prop
 |none=>nK P a o w D ι v
 |some r=>Mk P a o w D ι id v r∨MkM P a o w id v r∨MkC P a o w id v r
section
variable {g:Rows} {hs:Nat} {env:Env} {a:Act} {o:Oper} {id:Id} {v:AV}
theorem kE {x:Option AV} {mr:Option Row} (h:x.map (·,(none:Option Row))=some (v,mr)) (H:x=some v->nK P a o w D ι v):LS P a o w D ι id v mr:=by
 cases x with
 |none=>simp at h
 |some y=>simp at h;obtain⟨rfl,rfl⟩:=h;exact H rfl
theorem Ua {neg:Bool} {t yt:TypeId} {x y:Operand} {vo:gr} {mr:Option Row} (ho:o.op=.binOp (if neg then .neq else .eql) t x y yt) (hc:r7 P neg t x y=some vo) (hq:dZ vo (cY env) g id=some (v,mr)) (E:db P w D ι env a):LS P a o w D ι id v mr:=by
 unfold r7 at hc
 split at hc
 ·split at hc
  ·rename_i e ht
   simp only[Option.map_eq_some_iff]at hc
   obtain⟨x',hx,rfl⟩:=hc
   simp only[dZ,dq,Bool.false_eq_true,if_false,Option.map_eq_some_iff,Prod.mk.injEq]at hq
   obtain⟨b,hb,rfl,rfl⟩:=hq
   exact Rf E ho ht hx hb
  ·simp at hc
 ·split at hc
  ·rename_i ht
   simp only[Option.map_eq_some_iff]at hc
   obtain⟨x',hx,rfl⟩:=hc
   simp only[dZ,dq,if_true,Option.map_eq_some_iff,Prod.mk.injEq]at hq
   obtain⟨b,hb,rfl,rfl⟩:=hq
   exact Re E ho ht hx hb
  ·simp at hc
 ·split at hc
  ·rename_i ht
   simp only[Option.map_eq_some_iff]at hc
   obtain⟨x',hx,rfl⟩:=hc
   simp only[dZ,Option.map_eq_some_iff,Prod.mk.injEq]at hq
   obtain⟨b,hb,rfl,rfl⟩:=hq
   exact UA E ho ht hx hb
  ·simp at hc
 ·split at hc
  ·rename_i s hs
   simp only[Option.bind_eq_bind,Option.bind_eq_some_iff,Option.pure_def,Option.some.injEq]at hc
   obtain⟨x',hx,y',hy,rfl⟩:=hc
   simp only[dZ,Option.map_eq_some_iff,Prod.mk.injEq]at hq
   obtain⟨b,hb,rfl,rfl⟩:=hq
   have Ad:fD P t=some s:=by
    unfold V1 at hs
    split at hs
    ·rename_i s' h;simp at hs;subst hs;exact h
    ·split at hs
     ·split at hs
      ·simp at hs
      ·simp at hs
     ·simp at hs
   exact UB E ho Ad hx hy hb
  ·rename_i ts hs
   simp only[Option.bind_eq_bind,Option.bind_eq_some_iff,Option.pure_def,Option.some.injEq]at hc
   obtain⟨x',hx,y',hy,rfl⟩:=hc
   simp only[dZ]at hq
   split at hq
   ·rename_i xs ys h1 h2
    simp only[Option.map_eq_some_iff,Prod.mk.injEq]at hq
    obtain⟨b,hb,rfl,rfl⟩:=hq
    unfold V1 at hs
    split at hs
    ·simp at hs
    ·split at hs
     ·rename_i fs qR
      split at hs
      ·rename_i hg
       simp only[Option.map_eq_some_iff,VN.ag.injEq]at hs
       obtain⟨LL,tx,rfl⟩:=hs
       simp only[Bool.and_eq_true,Bool.not_eq_true']at hg
       exact Uz E ho qR hg.1 hg.2 tx hx hy h1 h2 hb
      ·simp at hs
     ·simp at hs
   ·simp at hq
  ·simp at hc
theorem QT {c:Call} {vo:gr} {mr:Option Row} (ho:o.op=.call c) (hc:mX P c=some vo) (hq:dZ vo (cY env) g id=some (v,mr)) (S:fY P hs D ι g w) (E:db P w D ι env a):LS P a o w D ι id v mr:=by
 unfold mX at hc
 split at hc
 ·rename_i kb
  split at hc
  ·rename_i x t h1 h2
   have hce:c={callee:=.builtin .len,args:= #[x],argTypes:= #[t]}:=by
    obtain⟨a,b,c⟩:=c
    simp only at h1 h2 kb
    subst kb
    congr
    ·exact Array.ext' h1
    ·exact Array.ext' h2
   rw[hce]at ho
   split at hc
   ·rename_i e ht
    simp only[Option.map_eq_some_iff]at hc
    obtain⟨x',hx,rfl⟩:=hc
    simp only[dZ,Option.map_eq_some_iff,Prod.mk.injEq]at hq
    obtain⟨n,hn,rfl,rfl⟩:=hq
    exact UC E ho ht hx hn
   ·rename_i ht
    simp only[Option.map_eq_some_iff]at hc
    obtain⟨x',hx,rfl⟩:=hc
    exact kE hq fun h=>Rk E ho ht hx h
   ·split at hc
    ·rename_i m z x' hm hx
     simp only[Option.some.injEq]at hc
     subst hc
     obtain⟨rfl,h⟩:=Rp (id:=id) S E ho hm hx hq
     exact h
    ·cases hc
   ·rename_i ht
    simp only[Option.map_eq_some_iff]at hc
    obtain⟨x',hx,rfl⟩:=hc
    exact kE hq fun h=>Rj S E ho ht hx h
   ·simp at hc
  ·simp at hc
 ·split at hc
  ·split at hc
   ·split at hc
    ·split at hc
     ·simp only[Option.bind_eq_bind,Option.bind_eq_some_iff,Option.pure_def,Option.some.injEq]at hc
      obtain⟨x',hx,y',hy,rfl⟩:=hc
      simp[dZ]at hq
     ·simp at hc
    ·simp at hc
   ·simp at hc
  ·simp at hc
 ·split at hc
  ·split at hc
   ·split at hc
    ·simp only[Option.map_eq_some_iff]at hc
     obtain⟨x',hx,rfl⟩:=hc
     simp[dZ]at hq
    ·simp at hc
   ·simp at hc
  ·simp at hc
 ·split at hc
  ·simp only[Option.map_eq_some_iff]at hc
   obtain⟨x',hx,rfl⟩:=hc
   simp[dZ]at hq
  ·simp at hc
 ·simp only[Option.map_eq_some_iff]at hc
  obtain⟨x',hx,rfl⟩:=hc
  simp[dZ]at hq
 ·split at hc
  ·split at hc
   ·simp only[Option.some.injEq]at hc
    subst hc
    simp[dZ]at hq
   ·cases hc
  ·cases hc
 ·split at hc
  ·split at hc
   ·split at hc
    ·simp only[Option.bind_eq_bind,Option.bind_eq_some_iff,Option.pure_def,Option.some.injEq]at hc
     obtain⟨x',hx,y',hy,rfl⟩:=hc
     simp[dZ]at hq
    ·simp at hc
   ·simp at hc
  ·simp at hc
 ·simp at hc
theorem zh {vo:gr} {mr:Option Row} (hc:qo P o.op=some vo) (hq:dZ vo (cY env) g id=some (v,mr)) (S:fY P hs D ι g w) (E:db P w D ι env a):LS P a o w D ι id v mr:=by
 unfold qo at hc
 split at hc
 ·rename_i ho
  simp only[Option.map_eq_some_iff]at hc
  obtain⟨x',hx,rfl⟩:=hc
  simp[dZ]at hq;obtain⟨rfl,rfl⟩:=hq
  exact OV E (.inl ho) hx
 ·rename_i ho
  simp only[Option.map_eq_some_iff]at hc
  obtain⟨x',hx,rfl⟩:=hc
  simp[dZ]at hq;obtain⟨rfl,rfl⟩:=hq
  exact OV E (.inr ho) hx
 ·rename_i ho
  simp only[Option.bind_eq_bind,Option.bind_eq_some_iff,Option.pure_def,Option.some.injEq]at hc
  obtain⟨c',h1,x',h2,y',h3,rfl⟩:=hc
  exact kE hq fun h=>Rq E ho h1 h2 h3 h
 ·rename_i ho
  simp only[Option.map_eq_some_iff]at hc
  obtain⟨z,hz,rfl⟩:=hc
  simp only[dZ,Option.some.injEq,Prod.mk.injEq]at hq
  obtain⟨rfl,rfl⟩:=hq
  exact .inl (TL ho hz)
 ·rename_i ho
  simp only[Option.map_eq_some_iff]at hc
  obtain⟨x',hx,rfl⟩:=hc
  simp only[dZ,Option.map_eq_some_iff,Prod.mk.injEq]at hq
  obtain⟨cs,eb,rfl,rfl⟩:=hq
  exact .inl (TJ E ho hx eb)
 ·rename_i ho
  split at hc
  ·rename_i hh
   simp only[Option.some.injEq]at hc
   subst hc
   exact kE hq fun h=>NP S ho hh.1 hh.2 h
  ·simp at hc
 ·rename_i ho
  simp only[Option.bind_eq_bind,Option.bind_eq_some_iff,Option.pure_def,Option.some.injEq]at hc
  obtain⟨ag,h1,n,h2,x',h3,rfl⟩:=hc
  exact kE hq fun h=>Rl S E ho h1 h2 h3 h
 ·rename_i ho
  simp only[Option.bind_eq_bind,Option.bind_eq_some_iff,Option.pure_def,Option.some.injEq]at hc
  obtain⟨n,h2,x',h3,y',h4,rfl⟩:=hc
  simp[dZ]at hq
 ·rename_i ho
  simp only[Option.map_eq_some_iff]at hc
  obtain⟨x',hx,rfl⟩:=hc
  exact kE hq fun h=>Uy E ho hx h
 ·rename_i op t x y yt ho
  unfold uY at hc
  split at hc
  ·exact Ua (neg:=false) ho hc hq E
  ·exact Ua (neg:=true) ho hc hq E
  ·simp only[Option.bind_eq_bind,Option.bind_eq_some_iff,Option.pure_def,Option.some.injEq]at hc
   obtain⟨x',h3,y',h4,rfl⟩:=hc
   exact kE hq fun h=>UF (left:=true) E ho h3 h4 h
  ·simp only[Option.bind_eq_bind,Option.bind_eq_some_iff,Option.pure_def,Option.some.injEq]at hc
   obtain⟨x',h3,y',h4,rfl⟩:=hc
   exact kE hq fun h=>UF (left:=false) E ho h3 h4 h
  ·rename_i n1 n2 n3 n4
   split at hc
   ·simp only[Option.bind_eq_bind,Option.bind_eq_some_iff,Option.pure_def,Option.some.injEq]at hc
    obtain⟨x',h3,y',h4,rfl⟩:=hc
    exact kE hq fun h=>Ux E ho n1 n2 h3 h4 h
   ·simp only[Option.bind_eq_bind,Option.bind_eq_some_iff,Option.pure_def,Option.some.injEq]at hc
    obtain⟨x',h3,y',h4,rfl⟩:=hc
    exact kE hq fun h=>Rb E ho n1 n2 h3 h4 h
   ·simp at hc
 ·rename_i ho
  simp only[Option.map_eq_some_iff]at hc
  obtain⟨x',hx,rfl⟩:=hc
  exact kE hq fun h=>UE E ho hx h
 ·rename_i ho
  simp only[Option.map_eq_some_iff]at hc
  obtain⟨x',hx,rfl⟩:=hc
  exact kE hq fun h=>UD E ho hx h
 ·rename_i ho
  split at hc
  ·rename_i q k h1 h2
   simp only[Option.map_eq_some_iff]at hc
   obtain⟨x',hx,rfl⟩:=hc
   exact kE hq fun h=>Rc E ho h1 h2 hx h
  ·rename_i h1 h2
   simp only[Option.map_eq_some_iff]at hc
   obtain⟨x',hx,rfl⟩:=hc
   exact kE hq fun h=>by
    have hr:=dQ E hx
    unfold bz at h
    split at h
    ·rename_i s hb
     simp at h;subst h
     rw[hb]at hr
     exact⟨.string s,by simp only[execOp,ho,fM hr,convert,Sem.run_bind,run_underlying h1,run_underlying h2,Result.andThen_ok,Sem.run_pure],.eG _ _ (.str _)⟩
    ·simp at h
  ·simp at hc
 ·rename_i ho
  split at hc
  ·rename_i e ht
   simp only[Option.bind_eq_bind,Option.bind_eq_some_iff,Option.pure_def,Option.some.injEq]at hc
   obtain⟨n,h1,x',h2,lo,h3,hi,h4,rfl⟩:=hc
   exact kE hq fun h=>NR S E ho ht h1 h2 h3 h4 h
  ·rename_i ht
   simp only[Option.bind_eq_bind,Option.bind_eq_some_iff,Option.pure_def,Option.some.injEq]at hc
   obtain⟨x',h2,lo,h3,hi,h4,rfl⟩:=hc
   exact kE hq fun h=>Lt E ho ht h2 h3 h4 h
  ·simp at hc
 ·rename_i ho
  split at hc
  ·rename_i fs qR
   split at hc
   ·rename_i f hf
    split at hc
    ·rename_i m hm
     simp only[Option.map_eq_some_iff]at hc
     obtain⟨x',hx,rfl⟩:=hc
     exact kE hq fun h=>NN E ho qR hf hm hx h
    ·simp at hc
   ·simp at hc
  ·simp at hc
 ·rename_i ho
  split at hc
  ·rename_i fs qR
   split at hc
   ·rename_i f hf
    simp only[Option.bind_eq_bind,Option.bind_eq_some_iff,Option.pure_def,Option.some.injEq]at hc
    obtain⟨ag,h1,n,h2,x',h3,rfl⟩:=hc
    exact kE hq fun h=>NO E ho qR hf h1 h2 h3 h
   ·simp at hc
  ·simp at hc
 ·rename_i ho
  split at hc
  ·rename_i e ht
   split at hc
   ·rename_i m hm
    simp only[Option.bind_eq_bind,Option.bind_eq_some_iff,Option.pure_def,Option.some.injEq]at hc
    obtain⟨x',h1,i',h2,rfl⟩:=hc
    exact kE hq fun h=>NQ S E ho ht hm h1 h2 h
   ·simp at hc
  ·rename_i len e ht
   split at hc
   ·rename_i m hm
    simp only[Option.bind_eq_bind,Option.bind_eq_some_iff,Option.pure_def,Option.some.injEq]at hc
    obtain⟨x',h1,i',h2,rfl⟩:=hc
    exact kE hq fun h=>Rg E ho ht hm h1 h2 h
   ·simp at hc
  ·simp at hc
 ·rename_i ho
  split at hc
  ·rename_i ht
   simp only[Option.bind_eq_bind,Option.bind_eq_some_iff,Option.pure_def,Option.some.injEq]at hc
   obtain⟨x',h1,i',h2,rfl⟩:=hc
   exact kE hq fun h=>Ri E ho ht h1 h2 h
  ·rename_i len e ht
   simp only[Option.bind_eq_bind,Option.bind_eq_some_iff,Option.pure_def,Option.some.injEq]at hc
   obtain⟨ag,h0,n,h1,x',h2,i',h3,rfl⟩:=hc
   exact kE hq fun h=>Rh E ho ht h0 h1 h2 h3 h
  ·simp at hc
 ·rename_i ho
  simp only[Option.map_eq_some_iff]at hc
  obtain⟨x',hx,rfl⟩:=hc
  exact kE hq fun h=>H4 E ho hx h
 ·rename_i ho
  split at hc
  ·rename_i fs qR
   split at hc
   ·rename_i z l hz hl
    split at hc
    ·rename_i eJ
     simp only[Option.map_eq_some_iff]at hc
     obtain⟨q,JP,rfl⟩:=hc
     simp only[dZ,Option.map_eq_some_iff,Prod.mk.injEq]at hq
     obtain⟨cs,eb,rfl,rfl⟩:=hq
     exact NM E ho qR hz hl (fun f hf=>by
      rw[Array.all_eq_true_iff_forall_mem]at eJ
      exact eJ f (Array.mem_toList_iff.1 hf)) JP eb
    ·simp at hc
   ·simp at hc
  ·rename_i len e ht
   split at hc
   ·rename_i z l n hz hl hn
    simp only[Option.some.injEq]at hc
    subst hc
    simp only[dZ,Option.map_eq_some_iff,Prod.mk.injEq]at hq
    obtain⟨cs,eb,rfl,rfl⟩:=hq
    exact Ls E ho ht hz hl hn eb
   ·simp at hc
  ·simp at hc
 ·rename_i ho
  split at hc
  ·rename_i e ht
   split at hc
   ·rename_i sz z l h1 h2 h3
    split at hc
    ·rename_i hh
     simp only[Option.some.injEq]at hc
     subst hc
     simp only[dZ,Option.map_eq_some_iff,Prod.mk.injEq]at hq
     obtain⟨rs,tW,rfl,rfl⟩:=hq
     exact .inl (Kf E ho ht h1 h2 h3 hh.1 hh.2 (by rw[List.map_map]at tW;exact tW))
    ·simp at hc
   ·simp at hc
  ·simp at hc
 ·rename_i ho
  split at hc
  ·rename_i hh
   simp only[Option.map_eq_some_iff]at hc
   obtain⟨l,hl,rfl⟩:=hc
   simp[dZ]at hq;obtain⟨rfl,rfl⟩:=hq
   exact Rn E ho hh.1 hh.2 hl
  ·split at hc
   ·rename_i hh
    simp only[Option.map_eq_some_iff]at hc
    obtain⟨l,hl,rfl⟩:=hc
    simp[dZ]at hq;obtain⟨rfl,rfl⟩:=hq
    exact Ro E ho hh.1 hh.2 hl
   ·simp at hc
 ·rename_i ho
  split at hc
  ·rename_i e ht
   split at hc
   ·rename_i m z i h1 h2 h3
    split at hc
    ·rename_i hb
     simp only[Option.bind_eq_bind,Option.bind_eq_some_iff,Option.pure_def,Option.some.injEq]at hc
     obtain⟨l',h4,c',h5,rfl⟩:=hc
     simp only[dZ,Option.map_eq_some_iff,Prod.mk.injEq]at hq
     obtain⟨⟨n,r⟩,hr,rfl,rfl⟩:=hq
     exact .inl (Ho E ho ht h1 h2 h3 hb h4 h5 hr)
    ·simp at hc
   ·simp at hc
  ·simp at hc
 ·rename_i ho
  exact QT ho hc hq S E
 ·rename_i ho
  split at hc
  ·rename_i dir e ht
   split at hc
   ·rename_i i hi
    split at hc
    ·rename_i hb
     simp only[Option.map_eq_some_iff]at hc
     obtain⟨x',hx,rfl⟩:=hc
     simp only[dZ,Option.map_eq_some_iff,Prod.mk.injEq]at hq
     obtain⟨n,hn,rfl,rfl⟩:=hq
     exact .inr (.inr (QM E ho ht hi hb hx hn))
    ·cases hc
   ·cases hc
  ·cases hc
 ·simp only[Option.bind_eq_bind,Option.bind_eq_some_iff,Option.pure_def,Option.some.injEq]at hc
  obtain⟨x',_,y',_,rfl⟩:=hc
  simp[dZ]at hq
 ·split at hc
  ·split at hc
   ·simp only[Option.map_eq_some_iff]at hc
    obtain⟨x',_,rfl⟩:=hc
    simp[dZ]at hq
   ·cases hc
  ·cases hc
 ·rename_i ho
  split at hc
  ·rename_i m z hm
   simp only[Option.some.injEq]at hc
   subst hc
   simp only[dZ,List.map_nil,bd,Option.some.injEq,Prod.mk.injEq]at hq
   obtain⟨rfl,rfl⟩:=hq
   exact .inr (.inl (TK ho))
  ·cases hc
 ·rename_i ho
  split at hc
  ·rename_i m z x' k' hm hx hk
   simp only[Option.some.injEq]at hc
   subst hc
   obtain⟨rfl,h⟩:=Rm (id:=id) S E ho hm hx hk hq
   exact h
  ·cases hc
 ·split at hc
  ·simp only[Option.some.injEq]at hc
   subst hc
   simp[dZ]at hq
  ·cases hc
 ·split at hc
  ·simp only[Option.some.injEq]at hc
   subst hc
   simp[dZ]at hq
  ·cases hc
 ·simp only[Option.some.injEq]at hc
  subst hc
  simp[dZ]at hq
 ·simp only[Option.some.injEq]at hc
  subst hc
  simp[dZ]at hq
 ·simp at hc
end
end Go.Proofs.YtakkdjfmiffbfaaGreatDoor.V

namespace Go.Proofs.YtakkdjfmiffbfaaGreatDoor.V
open Go.RowKit
variable {P:Program} {w w':World} {D D':Nat->Prop} {ι ι':Names}
def jU (ι:Names) (id:Id) (B:rZ):Names:=fun i=>if i=id then some B else ι i
theorem eo (ι:Names) (id:Id) (B:rZ):jU ι id B id=some B:=if_pos rfl
theorem fe {ι:Names} {id:Id} {B:rZ} (h:ι id=none):∀i B',ι i=some B'->jU ι id B i=some B':=fun i B' hi=>by
 have:i≠id:=by rintro rfl;rw[h]at hi;cases hi
 rw[jU,if_neg this];exact hi
theorem gh {ι:Names} {id i:Id} {B:rZ} (h:i≠id):jU ι id B i=ι i:=if_neg h
section
variable {g:Rows} {hs:Nat} {env:Env} {a:Act} {o:Oper} {id:Id} {v:AV}
theorem j6.frame {B:rZ} {r:Row} (h:j6 P w D ι B r) (hb:w'.heap[B.b]? =w.heap[B.b]?) (hr:∀a v,dF P w D ι a v->dF P w' D' ι' a v):j6 P w' D' ι' B r:=
 ⟨h.sz,by obtain⟨c,T,h1,h2⟩:=h.rU;exact⟨c,T,hb.trans h1,h2⟩,h.fits,h.len,h.flat,fun i j cs a hi hj=>by
  obtain⟨v,h1,h2⟩:=h.at_ i j cs a hi hj
  exact⟨v,(World.cell?_of_block (a:=⟨B.b,i*r.sz+j,none⟩) hb).trans h1,hr _ _ h2⟩⟩
theorem gD.frame {B:rZ} {r:Row} (h:gD P w D ι B r) (hb:w'.heap[B.b]? =w.heap[B.b]?) (hr:∀a v,dF P w D ι a v->dF P w' D' ι' a v):gD P w' D' ι' B r:=
 ⟨h.sz,h.flat,fun hk=>(h.row hk).frame hb hr,fun m hm=>by
  obtain⟨h1,es,c,h2,h3,h5,h4⟩:=h.map m hm
  refine⟨h1,es,c,hb.trans h2,h3,h5,fun i cs hi=>?_⟩
  obtain⟨e,kv,vv,q1,q2,q3,q4,q5⟩:=h4 i cs hi
  exact⟨e,kv,vv,q1,q2,q3,hr _ _ q4,hr _ _ q5⟩,fun c hc=>by
  obtain⟨h1,buf,s,q,h2,h3,h4⟩:=h.chan c hc
  refine⟨h1,buf,s,q,hb.trans h2,h3,fun i cs hi=>?_⟩
  obtain⟨a,u,q1,q2,q3⟩:=h4 i cs hi
  exact⟨a,u,q1,q2,hr _ _ q3⟩⟩
theorem fY.kill (S:fY P hs D ι g w) (i:Id):fY P hs D ι (bI g i) w:=by
 refine⟨S.lo,S.dead,fun id r h=>?_,fun id jQ r r' B B' h h' hw hB ei hb=>?_⟩
 ·unfold bI at h;split at h
  ·cases h
  ·exact S.row id r h
 ·unfold bI at h h'
  split at h
  ·cases h
  ·split at h'
   ·cases h'
   ·exact S.inj id jQ r r' B B' h h' hw hB ei hb
theorem fY.sub {g':Rows} (S:fY P hs D ι g w) (h:∀id r,g' id=some r->g id=some r):fY P hs D ι g' w:=
 ⟨S.lo,S.dead,fun id r hr=>S.row id r (h id r hr),fun id jQ r r' B B' h1 h2=>S.inj id jQ r r' B B' (h _ _ h1) (h _ _ h2)⟩
theorem AK {hid:List Nat} {n:Nat} {g:Rows}:∀id r,eC hid n g id=some r->g id=some r:=fun id r h=>by
 cases hid with
 |nil=>exact h
 |cons a l=>
  have e:eC (a::l) n g id=if (a::l).contains id.site=true/\id.cW=n then none else g id:=rfl
  rw[e]at h
  by_cases hc:(a::l).contains id.site=true/\id.cW=n
  ·rw[if_pos hc]at h;cases h
  ·rw[if_neg hc]at h;exact h
theorem fY.stay (S:fY P hs D ι g w) (hb:∀b,b<w.heap.size->w'.heap[b]? =w.heap[b]?) (hz:w.heap.size<=w'.heap.size) (hD:∀b,D b->D' b) (hD':∀b,D' b->b<w'.heap.size) (iT:∀b,D' b->D b∨w.heap.size<=b) (hι:∀id B,ι id=some B->ι' id=some B):fY P hs D' ι' g w':=by
 have hr:∀a v,dF P w D ι a v->dF P w' D' ι' a v:=fun a v h=>h.frame (fun b hd=>hb b (S.dead b hd)) hD hι
 have lt:∀{id r B},g id=some r->ι id=some B->B.b<w.heap.size:=fun {id r B} h hB=>by
  obtain⟨B',ei,R,_⟩:=S.row id r h
  rw[hB]at ei;injection ei with ei;subst ei
  exact R.lt
 refine⟨Nat.le_trans S.lo hz,hD',fun id r h=>?_,fun id jQ r r' B B' h h' hw hB ei he=>?_⟩
 ·obtain⟨B,hB,R,h1,h2⟩:=S.row id r h
  exact⟨B,hι _ _ hB,R.frame (hb _ (lt h hB)) hr,h1,fun hw hd=>by
   rcases iT _ hd with hd|hd
   ·exact h2 hw hd
   ·have:=lt h hB;omega⟩
 ·obtain⟨C,hC,_⟩:=S.row id r h
  obtain⟨C',tR,_⟩:=S.row jQ r' h'
  have e1:=hι _ _ hC
  have e2:=hι _ _ tR
  rw[hB]at e1;injection e1 with e1;subst e1
  rw[ei]at e2;injection e2 with e2;subst e2
  exact S.inj id jQ r r' _ _ h h' hw hC tR he
theorem Step.stay (S:fY P hs D ι g w) (hb:∀b,b<w.heap.size->w'.heap[b]? =w.heap[b]?) (hz:w.heap.size<=w'.heap.size) (e1:w'.os=w.os) (e2:w'.tape=w.tape) (e3:w'.output=w.output) (hD:∀b,D b->D' b) (iT:∀b,D' b->D b∨w.heap.size<=b) (hι:∀id B,ι id=some B->ι' id=some B):Step hs D ι w D' ι' w':=
 ⟨⟨e1,e2,e3,hz,fun k hk=>hb k (Nat.lt_of_lt_of_le hk S.lo)⟩,fun b hd=>hb b (S.dead b hd),hD,hι,fun b h=>(iT b h).imp_right (Nat.le_trans S.lo)⟩
theorem fY.alloc (S:fY P hs D ι g w) {cells:Array Value} {T:TypeId} {r:Row} (hh:w'.heap=w.heap.push (.cells cells T (0,0))) (hn:ι id=none) (hw:r.w=true) (h1:r.rows.length*r.sz<=cells.size) (h2:∀cs∈r.rows,cs.length=r.sz) (h3:∀cs∈r.rows,∀a∈cs,a.cell=true)
  (h4:∀i j cs a,r.rows[i]? =some cs->cs[j]? =some a->∃x,cells[i*r.sz+j]? =some x/\dF P w D ι a x):fY P hs D (jU ι id ⟨w.heap.size,r.sz,cells.size,none⟩) (bH g id r) w':=by
 have hb:∀b,b<w.heap.size->w'.heap[b]? =w.heap[b]? :=fun b eR=>by rw[hh,Array.getElem?_push,if_neg ab]
 have hz:w.heap.size<=w'.heap.size:=by rw[hh];simp
 have S':=S.stay (D':=D) (ι':=jU ι id ⟨w.heap.size,r.sz,cells.size,none⟩) hb hz (fun _ h=>h) (fun b hd=>Nat.lt_of_lt_of_le (S.dead b hd) hz) (fun _ h=>.inl h) (fe hn)
 have hr:∀a v,dF P w D ι a v->dF P w' D (jU ι id ⟨w.heap.size,r.sz,cells.size,none⟩) a v:=fun a v h=>h.frame (fun b hd=>hb b (S.dead b hd)) (fun _ h=>h) (fe hn)
 have iT:w'.heap[w.heap.size]? =some (.cells cells T (0,0)):=by rw[hh];simp
 have gone:g id=none:=by
  cases hg:g id with
  |none=>rfl
  |some q=>
   obtain⟨B,hB,_⟩:=S.row id q hg
   rw[hn]at hB;cases hB
 have lt:∀{i q B},g i=some q->ι i=some B->B.b<w.heap.size:=fun {i q B} h hB=>by
  obtain⟨B',ei,R,_⟩:=S.row i q h
  rw[hB]at ei;injection ei with ei;subst ei
  exact R.lt
 refine⟨S'.lo,S'.dead,fun i q h=>?_,fun i i' q q' B B' h h' JR hB ei he=>?_⟩
 ·unfold bH at h
  split at h
  ·rename_i e
   subst e
   injection h with h;subst h
   refine⟨_,eo _ _ _,j6.obj ⟨rfl,⟨cells,T,iT,rfl⟩,h1,h2,h3,fun k j cs a hk hj=>?_⟩ rfl,fun _=>S.lo,fun _ hd=>?_⟩
   ·obtain⟨x,hx,hrx⟩:=h4 k j cs a hk hj
    exact⟨x,by simp[World.cell?,iT,hx],hr _ _ hrx⟩
   ·have:=S.dead _ hd;simp at this
  ·exact S'.row i q h
 ·unfold bH at h h'
  split at h
  ·rename_i e
   split at h'
   ·rename_i e';exact e.trans e'.symm
   ·exfalso
    rename_i e'
    subst e
    rw[eo]at hB;injection hB with hB;subst hB
    rw[gh e']at ei
    have:=lt h' ei
    simp at he;omega
  ·rename_i e
   split at h'
   ·exfalso
    rename_i e'
    subst e'
    rw[eo]at ei;injection ei with ei;subst ei
    rw[gh e]at hB
    have:=lt h hB
    simp at he;omega
   ·exact S'.inj i i' q q' B B' h h' JR hB ei he
theorem fY.put (S:fY P hs D ι g w) {r r':Row} {B:rZ} {cur cur':Array Value} {T:TypeId} (hid:g id=some r) (hw:r.w=true) (hB:ι id=some B) (hblk:w.heap[B.b]? =some (.cells cur T (0,0))) (e8:cur'.size=cur.size)
  (h0:r'.w=true) (h1:r'.sz=r.sz) (h2:r'.rows.length*r'.sz<=B.C) (h3:∀cs∈r'.rows,cs.length=r'.sz) (h4:∀cs∈r'.rows,∀a∈cs,a.cell=true)
  (h5:∀i j cs a,r'.rows[i]? =some cs->cs[j]? =some a->∃v,cur'[i*r.sz+j]? =some v/\dF P w D ι a v):fY P hs D ι (bH g id r') (w.setRow B.b cur')/\Step hs D ι w D ι (w.setRow B.b cur'):=by
 obtain⟨B0,BJ,RO,lx,pI⟩:=S.row id r hid
 rw[hB]at BJ;injection BJ with BJ;subst BJ
 have tq:=RO.Nd hblk
 have R:=RO.row tq
 have hd:∀b,D b->(w.setRow B.b cur').heap[b]? =w.heap[b]? :=fun b hb=>setRow_other w B.b b cur' (by rintro rfl;exact pI hw hb)
 have hr:∀a v,dF P w D ι a v->dF P (w.setRow B.b cur') D ι a v:=fun a v h=>h.frame hd (fun _ h=>h) (fun _ _ h=>h)
 have hC:cur.size=B.C:=by
  obtain⟨c,T',h1,h2⟩:=R.rU
  rw[hblk]at h1;injection h1 with h1;injection h1 with h1 h1';subst h1;exact h2
 refine⟨⟨by simpa using S.lo,fun b hb=>by simpa using S.dead b hb,fun i q h=>?_,fun i i' q q' C C' h h' JR hC tR he=>?_⟩,⟨⟨by simp,by simp,by simp,by simp,fun k hk=>setRow_other w B.b k cur' (by have:=lx hw;omega)⟩,hd,fun _ h=>h,fun _ _ h=>h,fun _ h=>.inl h⟩⟩
 ·unfold bH at h
  split at h
  ·rename_i e
   subst e
   injection h with h;subst h
   refine⟨B,hB,j6.obj ⟨by rw[h1];exact R.sz,⟨cur',T,setRow_heap w B.b cur cur' T _ hblk,by rw[e8];exact hC⟩,h2,h3,h4,fun k j cs a hk hj=>?_⟩ tq,fun _=>lx hw,fun _=>pI hw⟩
   obtain⟨v,hv,nN⟩:=h5 k j cs a hk hj
   exact⟨v,by rw[cell_setRow_same w B.b _ cur cur' T _ hblk,h1];exact hv,hr _ _ nN⟩
  ·rename_i e
   obtain⟨C,hC,RC,k1,k2⟩:=S.row i q h
   refine⟨C,hC,RC.frame (setRow_other w B.b C.b cur' (fun CZ=>e ?_)) hr,k1,k2⟩
   exact(S.inj id i r q B C hid h hw hB hC CZ.symm).symm
 ·unfold bH at h h'
  have get:∀j p,(if j=id then some r' else g j)=some p->∃p0,g j=some p0/\(p.w=true->p0.w=true):=fun j p hp=>by
   split at hp
   ·rename_i e;subst e;injection hp with hp;subst hp;exact⟨r,hid,fun _=>hw⟩
   ·exact⟨p,hp,fun h=>h⟩
  obtain⟨p,hp,RI⟩:=get _ _ h
  obtain⟨p',MG,_⟩:=get _ _ h'
  exact S.inj i i' p p' C C' hp MG (RI JR) hC tR he
theorem fY.rename (S:fY P hs D ι g w) {i:Id} {r:Row} {B:rZ} (hi:g i=some r) (hw:r.w=true) (hB:ι i=some B) (hn:ι id=none):fY P hs D (jU ι id B) (bH (bI g i) id r) w:=by
 have S':=S.stay (w':=w) (D':=D) (ι':=jU ι id B) (fun _ _=>rfl) (Nat.le_refl _) (fun _ h=>h) S.dead (fun _ h=>.inl h) (fe hn)
 have ig:i≠id:=by rintro rfl;rw[hn]at hB;cases hB
 obtain⟨B1,AN,R,k1,k2⟩:=S'.row i r hi
 rw[gh ig,hB]at AN;injection AN with AN;subst AN
 have get:∀j p,bH (bI g i) id r j=some p->(j=id/\p=r)∨(j≠id/\j≠i/\g j=some p):=fun j p hp=>by
  unfold bH bI at hp
  split at hp
  ·rename_i e;injection hp with hp;exact .inl ⟨e,hp.symm⟩
  ·rename_i e
   split at hp
   ·cases hp
   ·rename_i e';exact .inr ⟨e,e',hp⟩
 refine⟨S.lo,S.dead,fun j p h=>?_,fun j j' p p' C C' h h' RI hC tR he=>?_⟩
 ·rcases get j p h with⟨rfl,rfl⟩|⟨_,_,hp⟩
  ·exact⟨B,eo _ _ _,R,k1,k2⟩
  ·exact S'.row j p hp
 ·rcases get j p h with⟨rfl,rfl⟩|⟨q1,q2,hp⟩
  ·rcases get j' p' h' with⟨rfl,rfl⟩|⟨q1',q2',MG⟩
   ·rfl
   ·exfalso
    rw[eo]at hC;injection hC with hC;subst hC
    rw[gh q1']at tR
    exact q2' (S.inj i j' p p' B C' hi MG hw hB tR he).symm
  ·rcases get j' p' h' with⟨rfl,rfl⟩|⟨q1',q2',MG⟩
   ·exfalso
    rw[eo]at tR;injection tR with tR;subst tR
    rw[gh q1]at hC
    exact q2 (S.inj j i p p' C B hp hi RI hC hB he)
   ·rw[gh q1]at hC
    rw[gh q1']at tR
    exact S.inj j j' p p' C C' hp MG RI hC tR he
def C7 (P:Program) (hs:Nat) (a:Act) (o:Oper) (w:World) (D:Nat->Prop) (ι:Names) (id:Id) (v:AV) (g':Rows):Prop:=
 ∃u w' ι',((execOp a.eval o).run P w=.ok (.value u) w'∨(execOp a.eval o).run P w=.ok .skip w'/\u=undef)/\Step hs D ι w D ι' w'/\fY P hs D ι' g' w'/\dF P w' D ι' v u/\∀i,i≠id->ι' i=ι i
theorem Cz {xs:List AV} {vs:Array Value} (h:fo P w D ι xs vs) (hf:∀a∈xs,a.cell=true):∀v∈vs.toList,v.oneCell'=true:=by
 intro v hv
 obtain⟨j,hj,rfl⟩:=List.getElem_of_mem hv
 have LC:j<xs.length:=by rw[<-h.1];simpa using hj
 obtain⟨u,hu,hr⟩:=h.2 j _ (List.getElem?_eq_getElem LC)
 have hc:=hr.Bn (hf _ (List.getElem_mem LC))
 have:vs.toList[j]=u:=by
  have:vs.toList[j]? =some u:=by simpa using hu
  rw[List.getElem?_eq_getElem hj]at this;injection this
 rw[this]
 cases u<;>simp_all [Value.oneCell']
theorem jD {i j n m:Nat} (h:i<n) (hj:j<m):i*m+j<n*m:=by
 have:(i+1)*m<=n*m:=Nat.mul_le_mul_right _ h
 rw[Nat.add_mul,Nat.one_mul]at this;omega
theorem j6.cur {B:rZ} {r:Row} (R:j6 P w D ι B r):∃cur T,w.heap[B.b]? =some (.cells cur T (0,0))/\cur.size=B.C/\∀i j cs a,r.rows[i]? =some cs->cs[j]? =some a->∃v,cur[i*r.sz+j]? =some v/\dF P w D ι a v:=by
 obtain⟨cur,T,h1,h2⟩:=R.rU
 refine⟨cur,T,h1,h2,fun i j cs a hi hj=>?_⟩
 obtain⟨v,hv,hr⟩:=R.at_ i j cs a hi hj
 exact⟨v,by simpa[World.cell?,h1]using hv,hr⟩
theorem Mg {t:TypeId} {n:Nat} {x y:Operand} {x' y':O} {g':Rows} (S:fY P hs D ι g w) (E:db P w D ι env a) (ho:o.op=.store t x y) (hn:ep P t=some n) (hx:cO P x=some x') (hy:cO P y=some y')
  (hv:bx g n (cY env y') (cY env x')=some g'):C7 P hs a o w D ι id .undef g':=by
 have rx:=dQ E hx
 have ry:=dQ E hy
 unfold bx at hv
 split at hv
 ·rename_i i k off hp
  rw[hp]at rx
  simp only[Option.bind_eq_some_iff]at hv
  obtain⟨r,hg,cs,eb,hv⟩:=hv
  split at hv
  ·rename_i hc
   obtain⟨c1,c2,c3,c4⟩:=hc
   simp at hv;subst hv
   obtain⟨B,he,hB,hk⟩:=gZ rx
   obtain⟨B',ei,R,lx,pI⟩:=S.row i r hg
   rw[hB]at ei;injection ei with ei;subst ei
   replace R:=R.row hk
   obtain⟨cur,T,hblk,hC,vO⟩:=R.cur
   have hL:=qj ry c3
   have h1:=Cz hL (List.all_eq_true.1 c3)
   have TB:(a.eval y).cells.size=n:=by rw[hL.1,c2]
   have ko:=(List.getElem?_eq_some_iff.1 eb).1
   have hlen:=R.len cs (List.mem_of_getElem? eb)
   have hbound:k*r.sz+r.sz<=r.rows.length*r.sz:=by
    have:(k+1)*r.sz<=r.rows.length*r.sz:=Nat.mul_le_mul_right _ ko
    rwa [Nat.add_mul,Nat.one_mul]at this
   have hf:=R.fits
   have ee:=run_storeCells_at P B.b (k*B.sz+off) T (a.eval y).cells.toList 0 cur w hblk (by rw[R.sz];simp only[Array.length_toList];omega) h1
   simp only[Nat.add_zero,Array.length_toList]at ee
   have qU:=S.put (r':={r with rows:=r.rows.set k (bW cs off (cY env y').cells)}) hg c1 hB hblk (cur':=(cur.toList.take (k*B.sz+off)++(a.eval y).cells.toList++cur.toList.drop (k*B.sz+off+(a.eval y).cells.size)).toArray)
    (by rw[R.sz];simp;omega) c1 rfl (by simpa using R.fits) (fun c SP=>by
     rcases List.mem_or_eq_of_mem_set SP with h|rfl
     ·exact R.len c h
     ·simp[bW];omega) (fun c SP b hb=>by
     rcases List.mem_or_eq_of_mem_set SP with h|rfl
     ·exact R.flat c h b hb
     ·unfold bW at hb
      rcases List.mem_append.1 hb with hb|hb
      ·rcases List.mem_append.1 hb with hb|hb
       ·exact R.flat cs (List.mem_of_getElem? eb) b (List.mem_of_mem_take hb)
       ·exact List.all_eq_true.1 c3 b hb
      ·exact R.flat cs (List.mem_of_getElem? eb) b (List.mem_of_mem_drop hb)) (fun i2 j c b vU hj=>by
     rw[R.sz]
     simp only[List.getElem?_toArray]
     by_cases C0:i2=k
     ·subst C0
      rw[List.getElem?_set_self ko]at vU
      injection vU with vU;subst vU
      unfold bW at hj
      by_cases hjo:j<off
      ·rw[List.append_assoc,List.getElem?_append_left (by simp;omega),List.getElem?_take,if_pos hjo]at hj
       rw[List.append_assoc,List.getElem?_append_left (by simp;omega),List.getElem?_take,if_pos ab]
       simpa using vO _ _ _ _ eb hj
      ·by_cases vV:j<off+n
       ·rw[List.append_assoc,List.getElem?_append_right (by simp;omega),List.getElem?_append_left (by simp;omega)]at hj
        rw[List.append_assoc,List.getElem?_append_right (by simp;omega),List.getElem?_append_left (by simp;omega)]
        simp only[List.length_take]at hj ⊢
        rw[show j-min off cs.length=j-off by omega]at hj
        rw[show i2*r.sz+j-min (i2*r.sz+off) cur.toList.length=j-off by simp;omega]
        simpa using hL.2 _ _ hj
       ·rw[List.getElem?_append_right (by simp;omega)]at hj
        rw[List.getElem?_append_right (by simp;omega)]
        simp only[List.length_append,List.length_take,List.getElem?_drop,Array.length_toList]at hj ⊢
        rw[show off+(cY env y').cells.length+(j-(min off cs.length+(cY env y').cells.length))=j by omega]at hj
        rw[show i2*r.sz+off+(a.eval y).cells.size+(i2*r.sz+j-(min (i2*r.sz+off) cur.size+(a.eval y).cells.size))=i2*r.sz+j by omega]
        simpa using vO _ _ _ _ eb hj
     ·rw[List.getElem?_set_ne (fun e=>C0 e.symm)]at vU
      have hi2l:=(List.getElem?_eq_some_iff.1 vU).1
      have iZ:j<r.sz:=by rw[<-R.len c (List.mem_of_getElem? vU)];exact(List.getElem?_eq_some_iff.1 hj).1
      have:=vO _ _ _ _ vU hj
      rcases Nat.lt_or_gt_of_ne C0 with eR|MA
      ·have h2:i2*r.sz+j<k*r.sz:=jD eR iZ
       rw[List.append_assoc,List.getElem?_append_left (by simp;omega),List.getElem?_take,if_pos ab]
       simpa using this
      ·have h2:k*r.sz+r.sz<=i2*r.sz:=by
        have:(k+1)*r.sz<=i2*r.sz:=Nat.mul_le_mul_right _ MA
        rwa [Nat.add_mul,Nat.one_mul]at this
       rw[List.getElem?_append_right (by simp;omega)]
       simp only[List.length_append,List.length_take,List.getElem?_drop,Array.length_toList]
       rw[show k*r.sz+off+(a.eval y).cells.size+(i2*r.sz+j-(min (k*r.sz+off) cur.size+(a.eval y).cells.size))=i2*r.sz+j by omega]
       simpa using this)
   refine⟨undef,_,ι,.inr ⟨?_,rfl⟩,qU.2,qU.1,dF.undef,fun _ _=>rfl⟩
   simp only[execOp,ho,he,Instr.storeAt,Instr.sureAddr,storeVar,Sem.run_bind,Sem.run_pure,Result.andThen_ok,run_sizeOf hn,TB,ne_eq,not_true_eq_false,if_false,ee]
  ·simp at hv
 ·simp at hv
end
end Go.Proofs.YtakkdjfmiffbfaaGreatDoor.V

namespace Go.Proofs.YtakkdjfmiffbfaaGreatDoor.V
open Go.RowKit
variable {P:Program} {w w':World} {D D':Nat->Prop} {ι ι':Names}
section
variable {g:Rows} {hs:Nat} {env:Env} {a:Act} {o:Oper} {id:Id} {v:AV}
theorem rD (S:fY P hs D ι g w) {y:AV} {u:Value} {ys:List (List AV)} {sz:Nat} (hr:dF P w D ι y u) (hy:aZ g y=some ys) (hl:∀c∈ys,c.length=sz) (hf:∀c∈ys,∀b∈c,b.cell=true):
  ∃A c,u=.slice A ys.length c/\(ys=[]∨∃b o,∃news:List Value,A=some ⟨b,o,none⟩/\news.length=ys.length*sz/\(∀j v,news[j]? =some v->w.cell? ⟨b,o+j,none⟩=some v)/\fo P w D ι ys.flatten news.toArray/\∀v∈news,v.oneCell'=true):=by
 have fin:∀b o,ys≠[]->(∀i j cs x,ys[i]? =some cs->cs[j]? =some x->∃v,w.cell? ⟨b,o+(i*sz+j),none⟩=some v/\dF P w D ι x v)->
   ∃news:List Value,news.length=ys.length*sz/\(∀j v,news[j]? =some v->w.cell? ⟨b,o+j,none⟩=some v)/\fo P w D ι ys.flatten news.toArray/\∀v∈news,v.oneCell'=true:=by
  intro b o _ h
  have hlen:=Jk hl
  have at_:∀k,k<ys.length*sz->∃x,ys.flatten[k]? =some x/\∃v,w.cell? ⟨b,o+k,none⟩=some v/\dF P w D ι x v:=by
   intro k hk
   have kq:0<sz:=by
    rcases Nat.eq_zero_or_pos sz with h0|h0
    ·subst h0;simp at hk
    ·exact h0
   have hi:k / sz<ys.length:=Nat.div_lt_of_lt_mul (by rw[Nat.mul_comm];exact hk)
   have hj:k % sz<sz:=Nat.mod_lt _ kq
   have eb:=List.getElem?_eq_getElem hi
   have iZ:k % sz<ys[k / sz].length:=by rw[hl _ (List.getElem_mem hi)];exact hj
   have hx:=List.getElem?_eq_getElem iZ
   have e:k / sz*sz+k % sz=k:=by rw[Nat.mul_comm];exact Nat.div_add_mod _ _
   refine⟨_,by rw[<-flat_get hl eb hx,e],?_⟩
   obtain⟨v,hv,nN⟩:=h _ _ _ _ eb hx
   rw[e]at hv
   exact⟨v,hv,nN⟩
  let news:=(List.range (ys.length*sz)).map fun k=>(w.cell? ⟨b,o+k,none⟩).getD undef
  have hn:∀k,k<ys.length*sz->∀v,w.cell? ⟨b,o+k,none⟩=some v->news[k]? =some v:=fun k hk v hv=>by
   simp only[news,List.getElem?_map,List.getElem?_range hk,Option.map_some,hv,Option.getD_some]
  have hR:fo P w D ι ys.flatten news.toArray:=⟨by simp[news,hlen],fun j x hx=>by
   have iZ:=(List.getElem?_eq_some_iff.1 hx).1
   rw[hlen]at iZ
   obtain⟨x',AR,v,hv,nN⟩:=at_ j iZ
   rw[hx]at AR;injection AR with AR;subst AR
   exact⟨v,by simpa using hn j iZ v hv,nN⟩⟩
  refine⟨news,by simp[news],fun j v hj=>?_,hR,?_⟩
  ·have iZ:j<ys.length*sz:=by have:=(List.getElem?_eq_some_iff.1 hj).1;simpa[news]using this
   obtain⟨x,_,v',nF,_⟩:=at_ j iZ
   rw[hn j iZ v' nF]at hj
   injection hj with hj
   rw[<-hj];exact nF
  ·have:=Cz hR (fun x hx=>by
    obtain⟨c,hc,Xs⟩:=List.mem_flatten.1 hx
    exact hf c hc x Xs)
   simpa using this
 unfold aZ at hy
 split at hy
 ·simp at hy;subst hy
  exact⟨none,0,iK hr,.inl rfl⟩
 ·rename_i rows
  simp at hy;subst hy
  obtain⟨A,c,he,_,_,h3⟩:=sL hr
  refine⟨A,c,he,?_⟩
  rcases h3 with h3|⟨b,oo,sz',vs,rfl,hD,Qg,_,hc,hi⟩
  ·exact .inl h3
  ·by_cases h0:rows=[]
   ·exact .inl h0
   ·have Ad:sz'=sz:=by
     cases rows with
     |nil=>exact(h0 rfl).elim
     |cons c r=>rw[<-Qg c (by simp),hl c (by simp)]
    subst Ad
    obtain⟨news,q1,q2,q3,q4⟩:=fin b oo h0 (fun i j cs x eb hx=>⟨_,hc i j (List.getElem?_eq_some_iff.1 eb).1 (by rw[<-Qg cs (List.mem_of_getElem? eb)];exact(List.getElem?_eq_some_iff.1 hx).1),.eG _ _ (hi i j cs x eb hx)⟩)
    exact .inr ⟨b,oo,news,rfl,q1,q2,q3,q4⟩
 ·rename_i i off len
  simp only[Option.bind_eq_some_iff]at hy
  obtain⟨r,hg,hy⟩:=hy
  split at hy
  ·rename_i hle
   simp at hy;subst hy
   obtain⟨oo,cap,B,he,hB,h1,h2,h3,h4,hk⟩:=iy hr
   obtain⟨B',ei,R,_,_⟩:=S.row i r hg
   rw[hB]at ei;injection ei with ei;subst ei
   replace R:=R.row hk
   have hlen:((r.rows.drop off).take len).length=len:=by simp;omega
   refine⟨some ⟨B.b,oo,none⟩,cap,by rw[hlen];exact he,?_⟩
   by_cases h0:(r.rows.drop off).take len=[]
   ·exact .inl h0
   ·have Ad:r.sz=sz:=by
     cases hq:(r.rows.drop off).take len with
     |nil=>exact(h0 hq).elim
     |cons c q=>
      have hm:c∈(r.rows.drop off).take len:=by rw[hq];simp
      rw[<-hl c hm,R.len c (List.mem_of_mem_drop (List.mem_of_mem_take hm))]
    have hlp:0<len:=by rw[<-hlen];exact List.length_pos_iff.2 h0
    have CY:oo=off*B.sz:=by rcases h2 with h2|h2<;>omega
    obtain⟨news,q1,q2,q3,q4⟩:=fin B.b oo h0 (fun i2 j cs x eb hx=>by
     rw[List.getElem?_take]at eb
     split at eb
     ·rw[List.getElem?_drop]at eb
      obtain⟨v,hv,nN⟩:=R.at_ _ _ _ _ eb hx
      refine⟨v,?_,nN⟩
      rw[CY,R.sz,<-Ad]
      rw[Nat.add_mul]at hv
      rw[<-Nat.add_assoc]
      exact hv
     ·simp at eb)
    exact .inr ⟨B.b,oo,news,rfl,q1,q2,q3,q4⟩
  ·simp at hy
 ·simp at hy
theorem oJ {t ty e:TypeId} {i:TypeInfo} (ht:P.underlying t=some (.slice e)) (hi:P.info? e=some i) (A:Option Addr) (n c:Nat) (hn:n<=c) (B:Option Addr) (d:Nat):
  (Builtin.append_ #[t,t] ty #[.slice A n c,.slice B 0 d]).run P w=.ok (.slice A n c) w:=by
 have hf:(Builtin.firstCells i.size 0 (.slice B 0 d)).run P w=.ok #[] w:=by
  cases B<;>simp[Builtin.firstCells,loadCells,loadCellsFrom]
 cases A with
 |none=>simp[Builtin.append_,run_underlying ht,sizeOf,typeInfo,hi,Builtin.lenOf,hn,hf]
 |some A=>simp[Builtin.append_,run_underlying ht,sizeOf,typeInfo,hi,Builtin.lenOf,hn,hf,storeCells]
theorem xX {t ty e T:TypeId} {i:TypeInfo} (ht:P.underlying t=some (.slice e)) (hi:P.info? e=some i) (b rG EC:Nat) (cur:Array Value) (hg:w.heap[b]? =some (.cells cur T (0,0)))
  (x:Addr) (m c:Nat) (news:List Value) (hl:news.length=m*i.size) (Tl:∀j u,news[j]? =some u->w.cell? (x.add j)=some u) (h1:∀u∈news,u.oneCell'=true)
  (gM:rG+m<=EC) (su:rG*i.size+news.length<=cur.size):
  (Builtin.append_ #[t,t] ty #[.slice (some ⟨b,0,none⟩) rG EC,.slice (some x) m c]).run P w=
   .ok (.slice (some ⟨b,0,none⟩) (rG+m) EC) (w.setRow b (cur.toList.take (rG*i.size)++news++cur.toList.drop (rG*i.size+news.length)).toArray):=by
 have hf:=run_firstCells_some (P:=P) w i.size m x m c news hl Tl
 have ee:=run_storeCells_at P b (rG*i.size) T news 0 cur w hg (by simpa using su) h1
 simp only[Nat.add_zero]at ee
 simp[Builtin.append_,run_underlying ht,sizeOf,typeInfo,hi,Builtin.lenOf,gM,hf,jY,ee]
theorem BH (w:World) (Hr Cs:Nat) (e:TypeId) (h:Hr<=cZ):Hr<=grownCap w Hr Cs e/\grownCap w Hr Cs e<=maxLen:=by
 unfold cZ at h
 simp only[grownCap,Question.cut,maxLen]
 have:=Nat.mod_lt (w.tape w.drawn (.appendCap Hr Cs e)) (show 0<2 ^ 63-Hr by omega)
 omega
theorem fZ {x y:Operand} {t:TypeId} {u:Value} (ho:o.op=.call {callee:=.builtin .append,args:= #[x,y],argTypes:= #[t,t]}) (h:(Builtin.append_ #[t,t] o.type #[a.eval x,a.eval y]).run P w=.ok u w'):(execOp a.eval o).run P w=.ok (.value u) w':=by
 simp only[execOp,ho,resolve,Sem.run_bind,Sem.run_pure,Result.andThen_ok,invoke,builtin]
 simp only[List.map_toArray,List.map_cons,List.map_nil]
 rw[h];rfl
theorem CK {T:TypeId} (S:fY P hs D ι g w) (cells:Array Value) (hn:ι id=none) (B:rZ):Step hs D ι w D (jU ι id B) (w.drew.alloc (.cells cells T)):=
 Step.stay S (fun k hk=>by show(w.heap.push _)[k]? = _;rw[Array.getElem?_push,if_neg ab]) (by show _<=(w.heap.push _).size;simp) rfl rfl rfl (fun _ h=>h) (fun _ h=>.inl h) (fe hn)
theorem Ja {x y:Operand} {x' y':O} {t e:TypeId} {m:Nat} {z:List K} {i:TypeInfo} {ys:List (List AV)} {g':Rows} (S:fY P hs D ι g w) (E:db P w D ι env a) (hn:ι id=none) (ho:o.op=.call {callee:=.builtin .append,args:= #[x,y],argTypes:= #[t,t]})
  (ht:P.underlying t=some (.slice e)) (e8:ep P e=some (m+1)) (hz:jy P e=some z) (hi:P.info? e=some i) (hby:i.bytes<=32768) (hx:cO P x=some x') (hy:cO P y=some y') (C2:aZ g (cY env y')=some ys)
  (hv:aD g id (m+1) (cY env x') ys=some (v,g')):C7 P hs a o w D ι id v g':=by
 have rx:=dQ E hx
 have ry:=dQ E hy
 obtain⟨it,zv,pG,wb,RM,hm,FL⟩:=jJ hz
 rw[hi]at pG;injection pG with pG;subst pG
 have jw:i.size=m+1:=by simpa[ep,hi]using e8
 have fits:∀n,n<=cZ->n*i.bytes<=140737488355328:=fun n h=>by
  unfold cZ at h
  have:=Nat.mul_le_mul h hby
  omega
 have e63:∀n,n<=cZ->(n:Int)<=9223372036854775807:=fun n h=>by unfold cZ at h;omega
 have same:∀(w1:World) (cells:Array Value),w1=w.drew.alloc (.cells cells e)->w1.heap=w.heap.push (.cells cells e (0,0)):=fun w1 cells h=>by subst h;rfl
 have R6:∀l:List (List AV),(l.all fun c=>c.length==m+1&&c.all AV.cell)=true->(∀c∈l,c.length=m+1)/\∀c∈l,∀b∈c,b.cell=true:=fun l h=>by
  rw[List.all_eq_true]at h
  refine⟨fun c hc=>?_,fun c hc b hb=>?_⟩
  ·have:=h c hc;simp at this;exact this.1
  ·have:=h c hc;simp at this;exact this.2 b hb
 unfold aD at hv
 split at hv
 ·rename_i hb
  rw[hb]at rx
  have ex:=iK rx
  split at hv
  ·simp at hv
   obtain⟨rfl,rfl⟩:=hv
   obtain⟨A,c,ey,_⟩:=rD (sz:=m+1) S ry C2 (fun c h=>by cases h) (fun c h=>by cases h)
   refine⟨_,w,ι,.inl (fZ ho (by rw[ex,ey];exact oJ ht hi none 0 0 (Nat.le_refl _) A c)),Step.refl _ _ _ _,S,.eG _ _ .bB,fun _ _=>rfl⟩
  ·rename_i y0 yr
   split at hv
   ·rename_i hc
    simp only[Option.some.injEq,Prod.mk.injEq]at hv
    obtain⟨rfl,rfl⟩:=hv
    obtain⟨hl,hf⟩:=R6 _ hc.2
    obtain⟨A,c,ey,h2⟩:=rD (sz:=m+1) S ry C2 hl hf
    rcases h2 with h2|⟨b,oo,news,rfl,q1,q2,q3,q4⟩
    ·cases h2
    have fG:=run_append_nil (P:=P) w t o.type e i zv ht hi wb ⟨b,oo,none⟩ (y0::yr).length c news (by rw[jw];exact q1) (fun j v hj=>by rw[jY];exact q2 j v hj) (by simp) (e63 _ hc.1) (by have:=fits _ hc.1;omega)
    obtain⟨g1,g2⟩:=BH w (y0::yr).length 0 e hc.1
    have eb:(news.toArray++Builtin.zeroCells zv.cells (grownCap w (y0::yr).length 0 e-(y0::yr).length)).size=grownCap w (y0::yr).length 0 e*(m+1):=by
     rw[Array.size_append,size_zeroCells,RM,jw]
     simp only[List.size_toArray,q1]
     rw[<-Nat.add_mul];congr 1;omega
    have S1:=S.alloc (w':=w.drew.alloc (.cells (news.toArray++Builtin.zeroCells zv.cells (grownCap w (y0::yr).length 0 e-(y0::yr).length)) e)) (r:=⟨true,m+1,y0::yr⟩) rfl hn rfl (by rw[eb];exact Nat.mul_le_mul_right _ g1) hl hf
     (fun k j cs b2 hk hj=>by
      obtain⟨u,hu,xR⟩:=q3.2 _ _ (flat_get hl hk hj)
      refine⟨u,?_,xR⟩
      have eR:=(Array.getElem?_eq_some_iff.1 hu).1
      dsimp only
      rw[Array.getElem?_append_left eR];exact hu)
    have ee:=CK (T:=e) S (news.toArray++Builtin.zeroCells zv.cells (grownCap w (y0::yr).length 0 e-(y0::yr).length)) hn ⟨w.heap.size,m+1,(news.toArray++Builtin.zeroCells zv.cells (grownCap w (y0::yr).length 0 e-(y0::yr).length)).size,none⟩
    refine⟨_,_,_,.inl (fZ ho (by rw[ex,ey];exact fG)),ee,S1,?_,fun _ h=>gh h⟩
    refine .own _ _ _ _ _ _ (eo _ _ _) rfl g1 (.inr (by simp)) ?_ g2
    dsimp only;rw[eb];simp
   ·simp at hv
 ·rename_i i0 len hb
  rw[hb]at rx
  simp only[Option.bind_eq_some_iff]at hv
  obtain⟨r,hg,hv⟩:=hv
  split at hv
  ·rename_i hc
   obtain⟨c1,c2,c3,c4,c5⟩:=hc
   simp only[Option.some.injEq,Prod.mk.injEq]at hv
   obtain⟨rfl,rfl⟩:=hv
   obtain⟨hl,hf⟩:=R6 _ c5
   obtain⟨A,c,ey,h2⟩:=rD (sz:=m+1) S ry C2 hl hf
   obtain⟨oo,cap,B,ex,hB,h1,CY,h3,h4,hk⟩:=iy rx
   obtain⟨B',ei,R,lx,pI⟩:=S.row _ _ hg
   rw[hB]at ei;injection ei with ei;subst ei
   replace R:=R.row hk
   have Jt:B.sz=m+1:=R.sz.trans c2
   have Al:∀cs∈r.rows++ys,cs.length=m+1:=fun cs eb=>by
    rcases List.mem_append.1 eb with h|h
    ·rw[<-c2];exact R.len cs h
    ·exact hl cs h
   have N9:∀cs∈r.rows++ys,∀b∈cs,b.cell=true:=fun cs eb=>by
    rcases List.mem_append.1 eb with h|h
    ·exact R.flat cs h
    ·exact hf cs h
   rcases h2 with rfl|⟨yb,yo,news,rfl,q1,q2,q3,q4⟩
   ·have G4:=S.rename hg c1 hB hn
    refine⟨_,w,jU ι id B,.inl (fZ ho (by rw[ex,ey];exact oJ ht hi _ _ _ h1 A c)),⟨Below.refl _ _,fun _ _=>rfl,fun _ h=>h,fe hn,fun _ h=>.inl h⟩,?_,?_,fun _ h=>gh h⟩
    ·have:(⟨true,m+1,r.rows++[]⟩:Row)=r:=by cases r;simp_all
     rw[this];exact G4
    ·simp only[List.length_nil,Nat.add_zero]
     exact .own _ _ _ _ _ B (eo _ _ _) hk h1 CY h3 h4
   ·obtain⟨cur,T,hblk,hC,vO⟩:=R.cur
    by_cases gM:len+ys.length<=cap
    ·have hoo:ys≠[]->oo=0:=fun h=>by
      rcases CY with CY|CY
      ·have:=List.length_pos_iff.2 h;omega
      ·simpa using CY
     by_cases Vz:ys=[]
     ·subst Vz
      have G4:=S.rename hg c1 hB hn
      refine⟨_,w,jU ι id B,.inl (fZ ho (by rw[ex,ey];exact oJ ht hi _ _ _ h1 _ c)),⟨Below.refl _ _,fun _ _=>rfl,fun _ h=>h,fe hn,fun _ h=>.inl h⟩,?_,?_,fun _ h=>gh h⟩
      ·have:(⟨true,m+1,r.rows++[]⟩:Row)=r:=by cases r;simp_all
       rw[this];exact G4
      ·simp only[List.length_nil,Nat.add_zero]
       exact .own _ _ _ _ _ B (eo _ _ _) hk h1 CY h3 h4
     have ho0:=hoo Vz
     subst ho0
     have su:len*i.size+news.length<=cur.size:=by
      rw[jw,q1,hC,<-Nat.add_mul]
      refine Nat.le_trans ?_ h3
      rw[Jt,Nat.zero_add]
      exact Nat.mul_le_mul_right _ gM
     have fG:=xX (ty:=o.type) ht hi B.b len cap cur hblk ⟨yb,yo,none⟩ ys.length c news (by rw[jw];exact q1) (fun j v hj=>by rw[jY];exact q2 j v hj) q4 gM su
     have mH:cur.toList.length=cur.size:=Array.length_toList
     simp only[jw]at fG su
     obtain⟨P1,P2⟩:=S.put (r':=⟨true,m+1,r.rows++ys⟩) hg c1 hB hblk (cur':=(cur.toList.take (len*(m+1))++news++cur.toList.drop (len*(m+1)+news.length)).toArray) (by simp only[List.size_toArray,List.length_append,List.length_take,List.length_drop,mH];omega) rfl c2.symm
      (by dsimp only;rw[List.length_append,<-c3,<-Jt];refine Nat.le_trans (Nat.mul_le_mul_right _ gM) (Nat.le_trans (by simp) h3)) Al N9 (fun k j cs b2 hk hj=>by
       simp only[List.getElem?_toArray]
       have iZ:j<m+1:=by rw[<-Al cs (List.mem_of_getElem? hk)];exact(List.getElem?_eq_some_iff.1 hj).1
       rw[c2]
       by_cases ko:k<r.rows.length
       ·rw[List.getElem?_append_left ko]at hk
        have h2:k*(m+1)+j<len*(m+1):=jD ab iZ
        rw[List.append_assoc,List.getElem?_append_left (by simp only[List.length_take,mH];omega),List.getElem?_take,if_pos h2]
        have:=vO k j cs b2 hk hj
        rw[c2]at this;simpa using this
       ·rw[List.getElem?_append_right ab]at hk
        have tr:=(List.getElem?_eq_some_iff.1 hk).1
        have xN:len*(m+1)<=k*(m+1):=Nat.mul_le_mul_right _ ab
        have qa:k*(m+1)+j-len*(m+1)=(k-r.rows.length)*(m+1)+j:=by
         rw[<-c3,Nat.sub_mul];omega
        obtain⟨u,hu,xR⟩:=q3.2 _ _ (flat_get hl hk hj)
        refine⟨u,?_,xR⟩
        have C1:news[(k-r.rows.length)*(m+1)+j]? =some u:=by simpa using hu
        have eR:=(List.getElem?_eq_some_iff.1 C1).1
        rw[List.append_assoc,List.getElem?_append_right (by simp only[List.length_take,mH];omega),List.getElem?_append_left (by simp only[List.length_take,mH];omega)]
        rw[<-C1]
        congr 1
        simp only[List.length_take,mH]
        omega)
     have jc:bH (bI (bH g i0 ⟨true,m+1,r.rows++ys⟩) i0) id ⟨true,m+1,r.rows++ys⟩=bH (bI g i0) id ⟨true,m+1,r.rows++ys⟩:=by
      funext q;simp only[bH,bI]
      by_cases h:q=id<;>by_cases h':q=i0<;>simp[h,h']
     have G4:=P1.rename (i:=i0) (id:=id) (r:=⟨true,m+1,r.rows++ys⟩) (by simp[bH]) rfl hB hn
     rw[jc]at G4
     refine⟨_,_,_,.inl (fZ ho (by rw[ex,ey];exact fG)),P2.trans ⟨Below.refl _ _,fun _ _=>rfl,fun _ h=>h,fe hn,fun _ h=>.inl h⟩,G4,?_,fun _ h=>gh h⟩
     exact .own _ _ _ _ _ B (eo _ _ _) hk gM (.inr (by simp)) h3 h4
    ·
     have holds:∃tZ:List Value,tZ.length=len*(m+1)/\(∀j v,tZ[j]? =some v->w.cell? ⟨B.b,oo+j,none⟩=some v)/\fo P w D ι r.rows.flatten tZ.toArray:=by
      obtain⟨A2,c2',e2,h2⟩:=rD (sz:=m+1) (u:=.slice (some ⟨B.b,oo,none⟩) len cap) S (.own i0 0 len oo cap B hB hk h1 CY h3 h4) (ys:=r.rows) (by simp[aZ,hg,c3]) (fun cs h=>by rw[<-c2];exact R.len cs h) R.flat
      rcases h2 with h2|⟨b2,o2,tZ,rfl,p1,p2,p3,_⟩
      ·refine⟨[],by simp[c3,h2],fun j v h=>by simp at h,by rw[h2];exact⟨rfl,fun j a h=>by simp at h⟩⟩
      ·injection e2 with e2 _ _
       injection e2 with e2
       injection e2 with e21 e22 _
       subst e21;subst e22
       exact⟨tZ,by rw[p1,c3],p2,p3⟩
     obtain⟨tZ,p1,p2,p3⟩:=holds
     have fG:=run_append_grow (P:=P) w t o.type e i zv ht hi wb ⟨B.b,oo,none⟩ len cap tZ (by rw[jw];exact p1) (fun j v hj=>by rw[jY];exact p2 j v hj) ⟨yb,yo,none⟩ ys.length c news (by rw[jw];exact q1) (fun j v hj=>by rw[jY];exact q2 j v hj) ab (e63 _ c4) (growslice_fits ab (fits _ c4))
     obtain⟨g1,g2⟩:=BH w (len+ys.length) cap e c4
     have eb:(tZ.toArray++news.toArray++Builtin.zeroCells zv.cells (grownCap w (len+ys.length) cap e-(len+ys.length))).size=grownCap w (len+ys.length) cap e*(m+1):=by
      rw[Array.size_append,Array.size_append,size_zeroCells,RM,jw]
      simp only[List.size_toArray,q1,p1]
      rw[<-Nat.add_mul,<-Nat.add_mul];congr 1;omega
     have S1:=(S.kill i0).alloc (id:=id) (w':=w.drew.alloc (.cells (tZ.toArray++news.toArray++Builtin.zeroCells zv.cells (grownCap w (len+ys.length) cap e-(len+ys.length))) e)) (r:=⟨true,m+1,r.rows++ys⟩) rfl hn rfl (by dsimp only;rw[eb,List.length_append,<-c3];exact Nat.mul_le_mul_right _ g1) Al N9
      (fun k j cs b2 hk hj=>by
       have JD:=flat_get Al hk hj
       rw[List.flatten_append]at JD
       have hol:tZ.length=r.rows.flatten.length:=by have:=p3.1;simpa using this
       dsimp only
       by_cases eR:k*(m+1)+j<r.rows.flatten.length
       ·rw[List.getElem?_append_left eR]at JD
        obtain⟨u,hu,xR⟩:=p3.2 _ _ JD
        refine⟨u,?_,xR⟩
        rw[Array.getElem?_append_left (by simp;omega),Array.getElem?_append_left (by simp;omega)];exact hu
       ·rw[List.getElem?_append_right ab]at JD
        obtain⟨u,hu,xR⟩:=q3.2 _ _ JD
        refine⟨u,?_,xR⟩
        have BT:=(Array.getElem?_eq_some_iff.1 hu).1
        simp only[List.size_toArray]at BT
        rw[Array.getElem?_append_left (by simp;omega),Array.getElem?_append_right (by simp;omega)]
        simp only[List.size_toArray,hol];exact hu)
     have ee:=CK (T:=e) S (tZ.toArray++news.toArray++Builtin.zeroCells zv.cells (grownCap w (len+ys.length) cap e-(len+ys.length))) hn ⟨w.heap.size,m+1,(tZ.toArray++news.toArray++Builtin.zeroCells zv.cells (grownCap w (len+ys.length) cap e-(len+ys.length))).size,none⟩
     refine⟨_,_,_,.inl (fZ ho (by rw[ex,ey];exact fG)),ee,S1,?_,fun _ h=>gh h⟩
     refine .own _ _ _ _ _ _ (eo _ _ _) rfl g1 (.inr (by simp)) ?_ g2
     dsimp only;rw[eb];simp
  ·simp at hv
 ·simp at hv
theorem kM {x:Operand} {t:TypeId} {u:Value} (ho:o.op=.call {callee:=.builtin .clear,args:= #[x],argTypes:= #[t]}) (h:(Builtin.clear_ #[t] o.type #[a.eval x]).run P w=.ok u w'):(execOp a.eval o).run P w=.ok (.value u) w':=by
 simp only[execOp,ho,resolve,Sem.run_bind,Sem.run_pure,Result.andThen_ok,invoke,builtin]
 simp only[List.map_toArray,List.map_cons,List.map_nil]
 rw[h];rfl
theorem Mf {x:Operand} {x':O} {t e:TypeId} {m:Nat} {z:List K} {g':Rows} (S:fY P hs D ι g w) (E:db P w D ι env a) (ho:o.op=.call {callee:=.builtin .clear,args:= #[x],argTypes:= #[t]})
  (ht:P.underlying t=some (.slice e)) (e8:ep P e=some (m+1)) (hz:jy P e=some z) (hx:cO P x=some x') (hv:bq g z (cY env x')=some g'):C7 P hs a o w D ι id .undef g':=by
 have rx:=dQ E hx
 obtain⟨it,zv,hi,wb,RM,hm,FL⟩:=jJ hz
 have jw:it.size=m+1:=by simpa[ep,hi]using e8
 unfold bq at hv
 split at hv
 ·rename_i hb
  rw[hb]at rx
  simp at hv;subst hv
  refine⟨undef,w,ι,.inl (kM ho (by rw[iK rx];simp only[Builtin.clear_,Sem.run_bind];simp[run_underlying ht,undef])),Step.refl _ _ _ _,S,dF.undef,fun _ _=>rfl⟩
 ·rename_i i off len hb
  rw[hb]at rx
  simp only[Option.bind_eq_some_iff]at hv
  obtain⟨r,hg,hv⟩:=hv
  split at hv
  ·rename_i hc
   obtain⟨c1,c2,c3⟩:=hc
   simp only[Option.some.injEq]at hv;subst hv
   obtain⟨oo,cap,B,ex,hB,h1,h2,h3,h4,hk⟩:=iy rx
   obtain⟨B',ei,R,lx,pI⟩:=S.row _ _ hg
   rw[hB]at ei;injection ei with ei;subst ei
   replace R:=R.row hk
   obtain⟨cur,T,hblk,hC,vO⟩:=R.cur
   by_cases h0:len=0
   ·subst h0
    have e1:({r with rows:=r.rows.take off++List.replicate 0 (z.map K.av)++r.rows.drop (off+0)}:Row)=r:=by cases r;simp
    rw[e1]
    have e2:bH g i r=g:=by
     funext q;unfold bH;split
     ·rename_i h;rw[h,hg]
     ·rfl
    rw[e2]
    refine⟨undef,w,ι,.inl (kM ho (by rw[ex];simp only[Builtin.clear_,Sem.run_bind];simp[run_underlying ht,undef])),Step.refl _ _ _ _,S,dF.undef,fun _ _=>rfl⟩
   ·have AP:oo=off*B.sz:=by rcases h2 with h2|h2<;>omega
    have Jt:B.sz=m+1:=by rw[R.sz,c2,FL,jw]
    have tW:r.sz=m+1:=by rw[<-R.sz,Jt]
    have TF:zv.cells.size=m+1:=by rw[RM,jw]
    have xu:(Builtin.zeroCells zv.cells len).toList.length=len*(m+1):=by rw[Array.length_toList,size_zeroCells,TF]
    have TE:∀k,k<len*(m+1)->∃c,z[k % z.length]? =some c/\(Builtin.zeroCells zv.cells len).toList[k]? =some c.val:=fun k hk=>by
     obtain⟨c,pF,jv⟩:=oU (n:=len*zv.cells.size) hm (by rw[FL,jw];omega) k (by rw[TF];exact hk)
     exact⟨c,pF,by rw[Array.getElem?_toList];exact jv⟩
    have hbound:(off+len)*(m+1)<=r.rows.length*(m+1):=Nat.mul_le_mul_right _ c3
    have vQ:=R.fits
    rw[tW]at vQ
    have WI:(off+len)*(m+1)=off*(m+1)+len*(m+1):=Nat.add_mul _ _ _
    have ee:=run_storeCells_at P B.b oo T (Builtin.zeroCells zv.cells len).toList 0 cur w hblk (by rw[xu,hC,AP,Jt];omega) (by
     intro v hv
     obtain⟨k,hk,rfl⟩:=List.getElem_of_mem hv
     obtain⟨c,_,jv⟩:=TE k (by rw[<-xu];exact hk)
     rw[List.getElem?_eq_getElem hk]at jv
     injection jv with jv
     rw[jv];cases c<;>rfl)
    simp only[Nat.add_zero]at ee
    have mH:cur.toList.length=cur.size:=Array.length_toList
    obtain⟨P1,P2⟩:=S.put (r':={r with rows:=r.rows.take off++List.replicate len (z.map K.av)++r.rows.drop (off+len)}) hg c1 hB hblk (cur':=(cur.toList.take oo++(Builtin.zeroCells zv.cells len).toList++cur.toList.drop (oo+(Builtin.zeroCells zv.cells len).toList.length)).toArray)
     (by simp only[List.size_toArray,List.length_append,List.length_take,List.length_drop,mH,xu];rw[AP,Jt];omega) c1 rfl (by
      have:(r.rows.take off++List.replicate len (z.map K.av)++r.rows.drop (off+len)).length=r.rows.length:=by simp;omega
      dsimp only;rw[this];exact R.fits) (fun cs eb=>by
      rcases List.mem_append.1 eb with h|h
      ·rcases List.mem_append.1 h with h|h
       ·exact R.len cs (List.mem_of_mem_take h)
       ·rw[List.eq_of_mem_replicate h];simp[c2]
      ·exact R.len cs (List.mem_of_mem_drop h)) (fun cs eb b hb=>by
      rcases List.mem_append.1 eb with h|h
      ·rcases List.mem_append.1 h with h|h
       ·exact R.flat cs (List.mem_of_mem_take h) b hb
       ·rw[List.eq_of_mem_replicate h]at hb
        obtain⟨c,_,rfl⟩:=List.mem_map.1 hb;exact c.mv
      ·exact R.flat cs (List.mem_of_mem_drop h) b hb) (fun k j cs b hk hj=>by
      simp only[List.getElem?_toArray]
      rw[tW]
      rw[AP,Jt,xu]
      by_cases yF:k<off
      ·rw[List.append_assoc,List.getElem?_append_left (by simp;omega),List.getElem?_take,if_pos yF]at hk
       have iZ:j<m+1:=by rw[<-tW,<-R.len cs (List.mem_of_getElem? hk)];exact(List.getElem?_eq_some_iff.1 hj).1
       have h2:=jD yF iZ
       rw[List.append_assoc,List.getElem?_append_left (by simp only[List.length_take,mH];omega),List.getElem?_take,if_pos h2]
       have:=vO k j cs b hk hj
       rw[tW]at this;simpa using this
      ·by_cases tr:k<off+len
       ·rw[List.append_assoc,List.getElem?_append_right (by simp;omega),List.getElem?_append_left (by simp;omega)]at hk
        have hZ:=List.eq_of_mem_replicate (List.mem_of_getElem? hk)
        subst hZ
        simp only[List.getElem?_map,Option.map_eq_some_iff]at hj
        obtain⟨q,hq,rfl⟩:=hj
        have iZ:=(List.getElem?_eq_some_iff.1 hq).1
        rw[FL,jw]at iZ
        have xN:off*(m+1)<=k*(m+1):=Nat.mul_le_mul_right _ ab
        have qa:k*(m+1)+j-off*(m+1)=(k-off)*(m+1)+j:=by rw[Nat.sub_mul];omega
        have BT:(k-off)*(m+1)+j<len*(m+1):=jD ab iZ
        rw[List.append_assoc,List.getElem?_append_right (by simp only[List.length_take,mH];omega),List.getElem?_append_left (by simp only[List.length_take,mH,xu];omega)]
        obtain⟨c,pF,jv⟩:=TE _ BT
        rw[FL,jw,Nat.mul_comm (k-off),Nat.mul_add_mod,Nat.mod_eq_of_lt iZ,hq]at pF
        injection pF with pF;subst pF
        refine⟨q.val,?_,wW q⟩
        rw[<-jv]
        congr 1
        simp only[List.length_take,mH];omega
       ·rw[List.getElem?_append_right (by simp;omega)]at hk
        simp only[List.length_append,List.length_take,List.length_replicate,List.getElem?_drop]at hk
        rw[show off+len+(k-(min off r.rows.length+len))=k by omega]at hk
        have ko:=(List.getElem?_eq_some_iff.1 hk).1
        have xN:(off+len)*(m+1)<=k*(m+1):=Nat.mul_le_mul_right _ ab
        rw[List.getElem?_append_right (by simp only[List.length_append,List.length_take,mH,xu];omega)]
        simp only[List.length_append,List.length_take,mH,xu,List.getElem?_drop]
        rw[show off*(m+1)+len*(m+1)+(k*(m+1)+j-(min (off*(m+1)) cur.size+len*(m+1)))=k*(m+1)+j by omega]
        have:=vO k j cs b hk hj
        rw[tW]at this;simpa using this)
    refine⟨undef,_,ι,.inl (kM ho ?_),P2,P1,dF.undef,fun _ _=>rfl⟩
    rw[ex]
    cases len with
    |zero=>exact(h0 rfl).elim
    |succ len=>
     simp only[Builtin.clear_,Sem.run_bind]
     simp[run_underlying ht,zeroValue,typeInfo,hi,wb,ee,undef]
  ·simp at hv
 ·simp at hv
theorem HH {dT sT ty e:TypeId} {it:TypeInfo} (hu:P.underlying dT=some (.slice e)) (hi:P.info? e=some it) (A B:Option Addr) (rG EC Gz Pr:Nat) (h0:Nat.min rG Gz=0):
  (Builtin.copy_ #[dT,sT] ty #[.slice A Gz Pr,.slice B rG EC]).run P w=.ok (goInt 0) w:=by
 cases A<;>cases B<;>simp[Builtin.copy_,run_underlying hu,Builtin.lenOf,Builtin.firstCells,sizeOf,typeInfo,hi,h0,storeCells,loadCells,loadCellsFrom]
theorem HI {dT sT ty e:TypeId} {it:TypeInfo} (hu:P.underlying dT=some (.slice e)) (hi:P.info? e=some it) (A B:Addr) (rG EC Gz Pr:Nat) (cs:List Value) (hn:cs.length=Nat.min rG Gz*it.size) (hl:(loadCells B cs.length).run P w=.ok cs.toArray w) (hs:(storeCells A cs).run P w=.ok () w'):
  (Builtin.copy_ #[dT,sT] ty #[.slice (some A) Gz Pr,.slice (some B) rG EC]).run P w=.ok (goInt (Nat.min rG Gz)) w':=by
 simp[Builtin.copy_,run_underlying hu,Builtin.lenOf,Builtin.firstCells,sizeOf,typeInfo,hi,<-hn,hl,hs]
theorem pO {x y:Operand} {t t2:TypeId} {u:Value} (ho:o.op=.call {callee:=.builtin .copy,args:= #[x,y],argTypes:= #[t,t2]}) (h:(Builtin.copy_ #[t,t2] o.type #[a.eval x,a.eval y]).run P w=.ok u w'):(execOp a.eval o).run P w=.ok (.value u) w':=by
 simp only[execOp,ho,resolve,Sem.run_bind,Sem.run_pure,Result.andThen_ok,invoke,builtin]
 simp only[List.map_toArray,List.map_cons,List.map_nil]
 rw[h];rfl
theorem Pt {x y:Operand} {x' y':O} {t t2 e:TypeId} {m:Nat} {ys:List (List AV)} {v:AV} {g':Rows} (S:fY P hs D ι g w) (E:db P w D ι env a) (ho:o.op=.call {callee:=.builtin .copy,args:= #[x,y],argTypes:= #[t,t2]})
  (ht:P.underlying t=some (.slice e)) (e8:ep P e=some (m+1)) (hx:cO P x=some x') (hy:cO P y=some y') (C2:aZ g (cY env y')=some ys) (hv:Ga g (m+1) (cY env x') ys=some (v,g')):C7 P hs a o w D ι id v g':=by
 have rx:=dQ E hx
 have ry:=dQ E hy
 obtain⟨it,hi,jw⟩:∃it,P.info? e=some it/\it.size=m+1:=by
  cases hq:P.info? e with
  |none=>simp[ep,hq]at e8
  |some it=>exact⟨it,rfl,by simpa[ep,hq]using e8⟩
 unfold Ga at hv
 split at hv
 ·rename_i i off len hb
  rw[hb]at rx
  simp only[Option.bind_eq_some_iff]at hv
  obtain⟨r,hg,hv⟩:=hv
  split at hv
  ·rename_i hc
   obtain⟨c1,c2,c3,c4⟩:=hc
   simp only[Option.some.injEq,Prod.mk.injEq]at hv
   obtain⟨rfl,rfl⟩:=hv
   rw[List.all_eq_true]at c4
   have hl:∀c∈ys,c.length=m+1:=fun c hc=>by have:=c4 c hc;simp at this;exact this.1
   have hf:∀c∈ys,∀b∈c,b.cell=true:=fun c hc b hb=>by have:=c4 c hc;simp at this;exact this.2 b hb
   obtain⟨oo,cap,B,ex,hB,h1,h2,h3,h4,hk⟩:=iy rx
   obtain⟨B',ei,R,lx,pI⟩:=S.row _ _ hg
   rw[hB]at ei;injection ei with ei;subst ei
   replace R:=R.row hk
   obtain⟨cur,T,hblk,hC,vO⟩:=R.cur
   obtain⟨A,sc,hu,hA⟩:=rD S ry C2 hl hf
   by_cases h0:min ys.length len=0
   ·rw[h0]
    have e1:({r with rows:=r.rows.take off++ys.take 0++r.rows.drop (off+0)}:Row)=r:=by cases r;simp
    rw[e1]
    have e2:bH g i r=g:=by
     funext q;unfold bH;split
     ·rename_i h;rw[h,hg]
     ·rfl
    rw[e2]
    refine⟨goInt 0,w,ι,.inl (pO ho (by rw[ex,hu];exact HH ht hi _ _ _ _ _ _ h0)),Step.refl _ _ _ _,S,.eG _ _ (.int _ _),fun _ _=>rfl⟩
   ·rcases hA with rfl|⟨b,o2,news,rfl,G2,hsrc,hR,h1c⟩
    ·simp at h0
    have Ti:Nat.min ys.length len=min ys.length len:=rfl
    have hky:min ys.length len<=ys.length:=Nat.min_le_left _ _
    have ko:min ys.length len<=len:=Nat.min_le_right _ _
    generalize Vd:min ys.length len=kk at *
    have hlen0:len≠0:=ab
    have AP:oo=off*B.sz:=by rcases h2 with h2|h2<;>omega
    have Jt:B.sz=m+1:=by rw[R.sz,c2]
    have tW:r.sz=m+1:=c2
    have hkm:kk*(m+1)<=ys.length*(m+1):=Nat.mul_le_mul_right _ hky
    have xu:(news.take (kk*(m+1))).length=kk*(m+1):=by rw[List.length_take,G2];omega
    have hbound:(off+kk)*(m+1)<=r.rows.length*(m+1):=Nat.mul_le_mul_right _ ab
    have vQ:=R.fits
    rw[tW]at vQ
    have WI:(off+kk)*(m+1)=off*(m+1)+kk*(m+1):=Nat.add_mul _ _ _
    have ee:=run_storeCells_at P B.b oo T (news.take (kk*(m+1))) 0 cur w hblk (by rw[xu,hC,AP,Jt];omega) (fun v hv=>h1c v (List.mem_of_mem_take hv))
    have WW:=run_loadCells_list (P:=P) w ⟨b,o2,none⟩ (news.take (kk*(m+1))) (fun j v hj=>by
     rw[List.getElem?_take]at hj
     split at hj
     ·have:=hsrc j v hj
      cases j with
      |zero=>simpa[Addr.add]using this
      |succ j=>simpa[Addr.add]using this
     ·cases hj)
    simp only[Nat.add_zero]at ee
    have mH:cur.toList.length=cur.size:=Array.length_toList
    have G6:(ys.take kk).length=kk:=by rw[List.length_take];omega
    obtain⟨P1,P2⟩:=S.put (r':={r with rows:=r.rows.take off++ys.take kk++r.rows.drop (off+kk)}) hg c1 hB hblk (cur':=(cur.toList.take oo++news.take (kk*(m+1))++cur.toList.drop (oo+(news.take (kk*(m+1))).length)).toArray)
     (by simp only[List.size_toArray,List.length_append,List.length_drop,mH,xu];rw[List.length_take,mH,AP,Jt];omega) c1 rfl (by
      have:(r.rows.take off++ys.take kk++r.rows.drop (off+kk)).length=r.rows.length:=by simp;omega
      dsimp only;rw[this];exact R.fits) (fun cs eb=>by
      rcases List.mem_append.1 eb with h|h
      ·rcases List.mem_append.1 h with h|h
       ·exact R.len cs (List.mem_of_mem_take h)
       ·rw[hl cs (List.mem_of_mem_take h)];exact c2.symm
      ·exact R.len cs (List.mem_of_mem_drop h)) (fun cs eb b hb=>by
      rcases List.mem_append.1 eb with h|h
      ·rcases List.mem_append.1 h with h|h
       ·exact R.flat cs (List.mem_of_mem_take h) b hb
       ·exact hf cs (List.mem_of_mem_take h) b hb
      ·exact R.flat cs (List.mem_of_mem_drop h) b hb) (fun k j cs b hk hj=>by
      simp only[List.getElem?_toArray]
      rw[tW]
      rw[AP,Jt,xu]
      by_cases yF:k<off
      ·rw[List.append_assoc,List.getElem?_append_left (by simp;omega),List.getElem?_take,if_pos yF]at hk
       have iZ:j<m+1:=by rw[<-tW,<-R.len cs (List.mem_of_getElem? hk)];exact(List.getElem?_eq_some_iff.1 hj).1
       have h2:=jD yF iZ
       rw[List.append_assoc,List.getElem?_append_left (by simp only[List.length_take,mH];omega),List.getElem?_take,if_pos h2]
       have:=vO k j cs b hk hj
       rw[tW]at this;simpa using this
      ·by_cases tr:k<off+kk
       ·rw[List.append_assoc,List.getElem?_append_right (by simp;omega),List.getElem?_append_left (by simp;omega)]at hk
        simp only[List.length_take]at hk
        rw[show k-min off r.rows.length=k-off by omega,List.getElem?_take,if_pos ab]at hk
        have iZ:j<m+1:=by rw[<-hl cs (List.mem_of_getElem? hk)];exact(List.getElem?_eq_some_iff.1 hj).1
        have xN:off*(m+1)<=k*(m+1):=Nat.mul_le_mul_right _ ab
        have qa:k*(m+1)+j-off*(m+1)=(k-off)*(m+1)+j:=by rw[Nat.sub_mul];omega
        have BT:(k-off)*(m+1)+j<kk*(m+1):=jD ab iZ
        rw[List.append_assoc,List.getElem?_append_right (by simp only[List.length_take,mH];omega),List.getElem?_append_left (by rw[xu];simp only[List.length_take,mH];omega)]
        obtain⟨u,JX,Qz⟩:=hR.2 ((k-off)*(m+1)+j) b (flat_get hl hk hj)
        refine⟨u,?_,Qz⟩
        rw[List.getElem?_take]
        simp only[List.length_take,mH]
        rw[show k*(m+1)+j-min (off*(m+1)) cur.size=(k-off)*(m+1)+j by omega,if_pos BT]
        simpa using JX
       ·rw[List.getElem?_append_right (by simp;omega)]at hk
        simp only[List.length_append,List.length_take,List.getElem?_drop]at hk
        rw[show off+kk+(k-(min off r.rows.length+min kk ys.length))=k by omega]at hk
        have ko:=(List.getElem?_eq_some_iff.1 hk).1
        have xN:(off+kk)*(m+1)<=k*(m+1):=Nat.mul_le_mul_right _ ab
        rw[List.getElem?_append_right (by rw[List.length_append,xu];simp only[List.length_take,mH];omega)]
        rw[List.getElem?_drop,List.length_append,xu]
        simp only[List.length_take,mH]
        rw[show off*(m+1)+kk*(m+1)+(k*(m+1)+j-(min (off*(m+1)) cur.size+kk*(m+1)))=k*(m+1)+j by omega]
        have:=vO k j cs b hk hj
        rw[tW]at this;simpa using this)
    refine⟨goInt kk,_,ι,.inl (pO ho ?_),P2,P1,.eG _ _ (.int _ _),fun _ _=>rfl⟩
    rw[ex,hu]
    have:=HI (w:=w) (sT:=t2) (ty:=o.type) ht hi ⟨B.b,oo,none⟩ ⟨b,o2,none⟩ ys.length sc len cap _ (by rw[xu,Ti,jw]) WW ee
    rw[Ti]at this
    exact this
  ·simp at hv
 ·simp at hv
end
end Go.Proofs.YtakkdjfmiffbfaaGreatDoor.V

namespace Go.Proofs.YtakkdjfmiffbfaaGreatDoor.V
open Go.RowKit
variable {P:Program} {w w':World} {D D' D2:Nat->Prop} {ι ι' ι2:Names}
section
variable {g:Rows} {hs:Nat}
theorem gx:∀{n:Nat} {l r:List AV},er g n l=some r->r.length=l.length/\∀(j:Nat) (b:AV),r[j]? =some b->∃a,l[j]? =some a/\fz g n a=some b
 |n,[],r,h=>by
  rw[er]at h;simp at h;subst h;simp
 |n,a::l,r,h=>by
  rw[er]at h
  split at h
  ·rename_i b hb
   simp only[Option.map_eq_some_iff]at h
   obtain⟨r',hr,rfl⟩:=h
   obtain⟨h1,h2⟩:=gx hr
   refine⟨by simp[h1],fun j c hj=>?_⟩
   cases j with
   |zero=>simp at hj;subst hj;exact⟨a,rfl,hb⟩
   |succ j=>simp at hj ⊢;exact h2 j c hj
  ·simp at h
theorem vI:∀{n:Nat} {l r:List (List AV)},eX g n l=some r->r.length=l.length/\∀(j:Nat) (b:List AV),r[j]? =some b->∃a,l[j]? =some a/\er g n a=some b
 |n,[],r,h=>by
  rw[eX]at h;simp at h;subst h;simp
 |n,a::l,r,h=>by
  rw[eX]at h
  split at h
  ·rename_i b hb
   simp only[Option.map_eq_some_iff]at h
   obtain⟨r',hr,rfl⟩:=h
   obtain⟨h1,h2⟩:=vI hr
   refine⟨by simp[h1],fun j c hj=>?_⟩
   cases j with
   |zero=>simp at hj;subst hj;exact⟨a,rfl,hb⟩
   |succ j=>simp at hj ⊢;exact h2 j c hj
  ·simp at h
theorem qN (hD:∀b,D b->D2 b) (rU:∀id row,g id=some row->row.w=true->∃B,ι id=some B/\gD P w D ι B row/\D2 B.b):∀(n:Nat) (a:AV) (u:Value) (r:AV),dF P w D ι a u->fz g n a=some r->dF P w D2 ι2 r u/\(a.cell=true->jK P w D2 r u/\r.cell=true):=by
 intro n
 induction n with
 |zero=>intro a u r _ h;rw[fz]at h;simp at h
 |succ n ih=>
  intro a u r hr h
  have both:∀{r:AV},jK P w D2 r u->r.cell=true->dF P w D2 ι2 r u/\(a.cell=true->jK P w D2 r u/\r.cell=true):=fun h1 h2=>⟨.eG _ _ h1,fun _=>⟨h1,h2⟩⟩
  cases a with
  |map id m=>rw[fz]at h;cases h
  |qF id=>rw[fz]at h;cases h
  |own id off len=>
   rw[fz]at h
   split at h
   ·rename_i row hg
    split at h
    ·rename_i hw
     split at h
     ·rename_i hle
      simp only[Option.map_eq_some_iff]at h
      obtain⟨rows,j7,rfl⟩:=h
      obtain⟨B,hB,R,PR⟩:=rU id row hg hw
      obtain⟨o,cap,B',rfl,ei,h1,h2,h3,h4,hk⟩:=iy hr
      rw[hB]at ei;injection ei with ei;subst ei
      replace R:=R.row hk
      obtain⟨l1,l2⟩:=vI j7
      have hlen:rows.length=len:=by rw[l1];simp;omega
      by_cases h0:rows=[]
      ·subst h0
       simp at hlen;subst hlen
       exact both (.AU _ _ h4) rfl
      ·have hlp:0<len:=by rw[<-hlen];exact List.length_pos_iff.2 h0
       have ho:o=off*B.sz:=by rcases h2 with h2|h2<;>omega
       have src:∀i cs,rows[i]? =some cs->∃c0,row.rows[off+i]? =some c0/\er g n c0=some cs:=fun i cs hi=>by
        obtain⟨c0,jA,hf⟩:=l2 i cs hi
        rw[List.getElem?_take]at jA
        split at jA
        ·rw[List.getElem?_drop]at jA;exact⟨c0,jA,hf⟩
        ·simp at jA
       have cell:∀i j,i<len->j<row.sz->∃c0 a0 v,row.rows[off+i]? =some c0/\c0[j]? =some a0/\w.cell? ⟨B.b,o+(i*row.sz+j),none⟩=some v/\dF P w D ι a0 v:=fun i j hi hj=>by
        have pG:off+i<row.rows.length:=ab
        have e1:=List.getElem?_eq_getElem pG
        have LC:j<row.rows[off+i].length:=by rw[R.len _ (List.getElem_mem pG)];exact hj
        obtain⟨v,hv,nN⟩:=R.at_ _ _ _ _ e1 (List.getElem?_eq_getElem LC)
        refine⟨_,_,v,e1,List.getElem?_eq_getElem LC,?_,nN⟩
        rw[ho,R.sz,<-hv]
        congr 2
        rw[Nat.add_mul];omega
       refine both (.sl rows B.b o len cap row.sz (fun i j=>(w.cell? ⟨B.b,o+(i*row.sz+j),none⟩).getD undef) hlen h1 h4 PR (fun cs eb=>?_) (fun cs eb b hb=>?_) (fun i j hi hj=>?_) (fun i j cs b hi hj=>?_)) rfl
       ·obtain⟨i,hi,rfl⟩:=List.getElem_of_mem eb
        obtain⟨c0,jA,hf⟩:=src i _ (List.getElem?_eq_getElem hi)
        rw[(gx hf).1];exact R.len c0 (List.mem_of_getElem? jA)
       ·obtain⟨i,hi,rfl⟩:=List.getElem_of_mem eb
        obtain⟨c0,jA,hf⟩:=src i _ (List.getElem?_eq_getElem hi)
        obtain⟨j,hj,rfl⟩:=List.getElem_of_mem hb
        obtain⟨a0,kQ,JB⟩:=(gx hf).2 j _ (List.getElem?_eq_getElem hj)
        obtain⟨v,_,nN⟩:=R.at_ _ _ _ _ jA kQ
        exact((ih _ _ _ nN JB).2 (R.flat c0 (List.mem_of_getElem? jA) a0 (List.mem_of_getElem? kQ))).2
       ·obtain⟨c0,a0,v,_,_,hv,_⟩:=cell i j hi hj
        simp only[hv,Option.getD_some]
       ·obtain⟨c0,jA,hf⟩:=src i cs hi
        obtain⟨a0,kQ,JB⟩:=(gx hf).2 j b hj
        have qp:i<len:=by rw[<-hlen];exact(List.getElem?_eq_some_iff.1 hi).1
        have iZ:j<row.sz:=by rw[<-R.len c0 (List.mem_of_getElem? jA)];exact(List.getElem?_eq_some_iff.1 kQ).1
        obtain⟨c1,a1,v,e1,e2,hv,nN⟩:=cell i j qp iZ
        rw[jA]at e1;injection e1 with e1;subst e1
        rw[kQ]at e2;injection e2 with e2;subst e2
        simp only[hv,Option.getD_some]
        exact((ih _ _ _ nN JB).2 (R.flat c0 (List.mem_of_getElem? jA) a0 (List.mem_of_getElem? kQ))).1
     ·simp at h
    ·simp at h
   ·simp at h
  |ptr id i off=>
   rw[fz]at h
   split at h
   ·rename_i row hg
    split at h
    ·rename_i hw
     split at h
     ·rename_i c0 jA
      simp only[Option.map_eq_some_iff]at h
      obtain⟨cs,eb,rfl⟩:=h
      obtain⟨B,hB,R,PR⟩:=rU id row hg hw
      obtain⟨B',rfl,ei,hk⟩:=gZ hr
      rw[hB]at ei;injection ei with ei;subst ei
      replace R:=R.row hk
      obtain⟨l1,l2⟩:=gx eb
      have at_:∀j b,cs[j]? =some b->∃a0 v,w.cell? ⟨B.b,i*B.sz+off+j,none⟩=some v/\dF P w D ι a0 v/\a0.cell=true/\fz g n a0=some b:=fun j b hj=>by
       obtain⟨a0,kQ,hf⟩:=l2 j b hj
       rw[List.getElem?_drop]at kQ
       obtain⟨v,hv,nN⟩:=R.at_ _ _ _ _ jA kQ
       refine⟨a0,v,?_,nN,R.flat c0 (List.mem_of_getElem? jA) a0 (List.mem_of_getElem? kQ),hf⟩
       rw[R.sz,Nat.add_assoc];exact hv
      refine both (.eT cs B.b _ (fun j=>(w.cell? ⟨B.b,i*B.sz+off+j,none⟩).getD undef) PR (fun b hb=>?_) (fun j hj=>?_) (fun j b hj=>?_)) rfl
      ·obtain⟨j,hj,rfl⟩:=List.getElem_of_mem hb
       obtain⟨a0,v,_,nN,hc,hf⟩:=at_ j _ (List.getElem?_eq_getElem hj)
       exact((ih _ _ _ nN hf).2 hc).2
      ·obtain⟨a0,v,hv,_⟩:=at_ j _ (List.getElem?_eq_getElem hj)
       simp only[hv,Option.getD_some]
      ·obtain⟨a0,v,hv,nN,hc,hf⟩:=at_ j b hj
       simp only[hv,Option.getD_some]
       exact((ih _ _ _ nN hf).2 hc).1
     ·simp at h
    ·simp at h
   ·simp at h
  |agg cs=>
   rw[fz]at h
   simp only[Option.map_eq_some_iff]at h
   obtain⟨r',nL,rfl⟩:=h
   obtain⟨vs,f,rfl,h1,h2,h3,h4⟩:=iw hr
   obtain⟨l1,l2⟩:=gx nL
   have hI:jK P w D2 (.agg r') (.agg vs):=.agg r' vs f (by rw[h1,l1]) (fun b hb=>by
    obtain⟨j,hj,rfl⟩:=List.getElem_of_mem hb
    obtain⟨a0,kQ,hf⟩:=l2 j _ (List.getElem?_eq_getElem hj)
    exact((ih _ _ _ (h4 j a0 kQ) hf).2 (h2 a0 (List.mem_of_getElem? kQ))).2) (fun j hj=>h3 j (by rw[<-l1];exact hj)) (fun j b hj=>by
    obtain⟨a0,kQ,hf⟩:=l2 j b hj
    exact((ih _ _ _ (h4 j a0 kQ) hf).2 (h2 a0 (List.mem_of_getElem? kQ))).1)
   exact⟨.eG _ _ hI,fun hc=>by simp[AV.cell]at hc⟩
  |fK cs=>
   rw[fz]at h
   simp only[Option.map_eq_some_iff]at h
   obtain⟨r',nL,rfl⟩:=h
   obtain⟨vs,f,rfl,h1,h3,h4⟩:=uz hr
   obtain⟨l1,l2⟩:=gx nL
   exact⟨.fK r' vs f (by rw[h1,l1]) (fun j hj=>h3 j (by rw[<-l1];exact hj)) (fun j b hj=>by
    obtain⟨a0,kQ,hf⟩:=l2 j b hj
    exact(ih _ _ _ (h4 j a0 kQ) hf).1),fun hc=>by simp[AV.cell]at hc⟩
  |fn f dJ=>
   rw[fz]at h
   split at h
   ·rename_i eJ
    simp only[Option.map_eq_some_iff]at h
    obtain⟨r',nL,rfl⟩:=h
    obtain⟨vs,q,rfl,h0,h1,h3,h4⟩:=sK hr
    obtain⟨l1,l2⟩:=gx nL
    exact both (.fn f r' vs q h0 (by rw[h1,l1]) (fun j hj=>h3 j (by rw[<-l1];exact hj)) (fun j b hj=>by
     obtain⟨a0,kQ,hf⟩:=l2 j b hj
     exact((ih _ _ _ (h4 j a0 kQ) hf).2 (List.all_eq_true.1 eJ a0 (List.mem_of_getElem? kQ))).1)) rfl
   ·simp at h
  |int k m=>rw[fz]at h<;>(try simp at h)<;>(try subst h)<;>(try(rw[dO hr];exact⟨.eG _ _ (.int _ _),fun _=>⟨.int _ _,rfl⟩⟩))<;>(try(intros;simp_all))
  |bool b=>rw[fz]at h<;>(try simp at h)<;>(try subst h)<;>(try(rw[fm hr];exact⟨.eG _ _ (.bool _),fun _=>⟨.bool _,rfl⟩⟩))<;>(try(intros;simp_all))
  |str b=>rw[fz]at h<;>(try simp at h)<;>(try subst h)<;>(try(rw[fM hr];exact⟨.eG _ _ (.str _),fun _=>⟨.str _,rfl⟩⟩))<;>(try(intros;simp_all))
  |bB=>rw[fz]at h<;>(try simp at h)<;>(try subst h)<;>(try(rw[iK hr];exact⟨.eG _ _ .bB,fun _=>⟨.bB,rfl⟩⟩))<;>(try(intros;simp_all))
  |iU=>rw[fz]at h<;>(try simp at h)<;>(try subst h)<;>(try(rw[wZ hr];exact⟨.eG _ _ .iU,fun _=>⟨.iU,rfl⟩⟩))<;>(try(intros;simp_all))
  |jd=>rw[fz]at h<;>(try simp at h)<;>(try subst h)<;>(try(rw[CB hr];exact⟨.eG _ _ .jd,fun _=>⟨.jd,rfl⟩⟩))<;>(try(intros;simp_all))
  |iF=>rw[fz]at h<;>(try simp at h)<;>(try subst h)<;>(try(rw[wY hr];exact⟨.eG _ _ .iF,fun _=>⟨.iF,rfl⟩⟩))<;>(try(intros;simp_all))
  |err g t s=>rw[fz]at h<;>(try simp at h)<;>(try subst h)<;>(try(cases hr with|eG _ _ hr=>exact both (hr.frame (fun _ _=>rfl) hD) rfl))<;>(try(intros;simp_all))
  |tD f dJ=>rw[fz]at h<;>(try simp at h)<;>(try(intros;simp_all))
  |gO=>rw[fz]at h<;>(try simp at h)<;>(try subst h)<;>(try(cases hr with|eG _ _ hr=>exact both (hr.frame (fun _ _=>rfl) hD) rfl))<;>(try(intros;simp_all))
  |sl rows=>rw[fz]at h<;>(try simp at h)<;>(try subst h)<;>(try(cases hr with|eG _ _ hr=>exact both (hr.frame (fun _ _=>rfl) hD) rfl))<;>(try(intros;simp_all))
  |eT cs=>rw[fz]at h<;>(try simp at h)<;>(try subst h)<;>(try(cases hr with|eG _ _ hr=>exact both (hr.frame (fun _ _=>rfl) hD) rfl))<;>(try(intros;simp_all))
theorem iS:∀{n:Nat} {l r:List AV},fa g n l=some r->r.length=l.length/\∀(j:Nat) (b:AV),r[j]? =some b->∃a,l[j]? =some a/\gE g n a=some b
 |n,[],r,h=>by
  rw[fa]at h;simp at h;subst h;simp
 |n,a::l,r,h=>by
  rw[fa]at h
  split at h
  ·rename_i b hb
   simp only[Option.map_eq_some_iff]at h
   obtain⟨r',hr,rfl⟩:=h
   obtain⟨h1,h2⟩:=iS hr
   refine⟨by simp[h1],fun j c hj=>?_⟩
   cases j with
   |zero=>simp at hj;subst hj;exact⟨a,rfl,hb⟩
   |succ j=>simp at hj ⊢;exact h2 j c hj
  ·simp at h
theorem th:∀{n:Nat} {l r:List (List AV)},gn g n l=some r->r.length=l.length/\∀(j:Nat) (b:List AV),r[j]? =some b->∃a,l[j]? =some a/\fa g n a=some b
 |n,[],r,h=>by
  rw[gn]at h;simp at h;subst h;simp
 |n,a::l,r,h=>by
  rw[gn]at h
  split at h
  ·rename_i b hb
   simp only[Option.map_eq_some_iff]at h
   obtain⟨r',hr,rfl⟩:=h
   obtain⟨h1,h2⟩:=th hr
   refine⟨by simp[h1],fun j c hj=>?_⟩
   cases j with
   |zero=>simp at hj;subst hj;exact⟨a,rfl,hb⟩
   |succ j=>simp at hj ⊢;exact h2 j c hj
  ·simp at h
theorem GN (rU:∀id row,g id=some row->row.w=true->∃B,ι id=some B/\gD P w D ι B row/\D2 B.b):∀(n:Nat) (a:AV) (u:Value) (r:AV),dF P w D ι a u->gE g n a=some r->dF P w D2 ι2 r u/\(a.cell=true->jK P w D2 r u/\r.cell=true):=by
 intro n
 induction n with
 |zero=>intro a u r _ h;rw[gE]at h;simp at h
 |succ n ih=>
  intro a u r hr h
  have both:∀{r:AV},jK P w D2 r u->r.cell=true->dF P w D2 ι2 r u/\(a.cell=true->jK P w D2 r u/\r.cell=true):=fun h1 h2=>⟨.eG _ _ h1,fun _=>⟨h1,h2⟩⟩
  cases a with
  |map id m=>rw[gE]at h<;>simp_all
  |qF id=>rw[gE]at h<;>simp_all
  |own id off len=>
   rw[gE]at h
   split at h
   ·rename_i row hg
    split at h
    ·rename_i hw
     split at h
     ·rename_i hle
      simp only[Option.map_eq_some_iff]at h
      obtain⟨rows,j7,rfl⟩:=h
      obtain⟨B,hB,R,PR⟩:=rU id row hg hw
      obtain⟨o,cap,B',rfl,ei,h1,h2,h3,h4,hk⟩:=iy hr
      rw[hB]at ei;injection ei with ei;subst ei
      replace R:=R.row hk
      obtain⟨l1,l2⟩:=th j7
      have hlen:rows.length=len:=by rw[l1];simp;omega
      by_cases h0:rows=[]
      ·subst h0
       simp at hlen;subst hlen
       exact both (.AU _ _ h4) rfl
      ·have hlp:0<len:=by rw[<-hlen];exact List.length_pos_iff.2 h0
       have ho:o=off*B.sz:=by rcases h2 with h2|h2<;>omega
       have src:∀i cs,rows[i]? =some cs->∃c0,row.rows[off+i]? =some c0/\fa g n c0=some cs:=fun i cs hi=>by
        obtain⟨c0,jA,hf⟩:=l2 i cs hi
        rw[List.getElem?_take]at jA
        split at jA
        ·rw[List.getElem?_drop]at jA;exact⟨c0,jA,hf⟩
        ·simp at jA
       have cell:∀i j,i<len->j<row.sz->∃c0 a0 v,row.rows[off+i]? =some c0/\c0[j]? =some a0/\w.cell? ⟨B.b,o+(i*row.sz+j),none⟩=some v/\dF P w D ι a0 v:=fun i j hi hj=>by
        have pG:off+i<row.rows.length:=ab
        have e1:=List.getElem?_eq_getElem pG
        have LC:j<row.rows[off+i].length:=by rw[R.len _ (List.getElem_mem pG)];exact hj
        obtain⟨v,hv,nN⟩:=R.at_ _ _ _ _ e1 (List.getElem?_eq_getElem LC)
        refine⟨_,_,v,e1,List.getElem?_eq_getElem LC,?_,nN⟩
        rw[ho,R.sz,<-hv]
        congr 2
        rw[Nat.add_mul];omega
       refine both (.sl rows B.b o len cap row.sz (fun i j=>(w.cell? ⟨B.b,o+(i*row.sz+j),none⟩).getD undef) hlen h1 h4 PR (fun cs eb=>?_) (fun cs eb b hb=>?_) (fun i j hi hj=>?_) (fun i j cs b hi hj=>?_)) rfl
       ·obtain⟨i,hi,rfl⟩:=List.getElem_of_mem eb
        obtain⟨c0,jA,hf⟩:=src i _ (List.getElem?_eq_getElem hi)
        rw[(iS hf).1];exact R.len c0 (List.mem_of_getElem? jA)
       ·obtain⟨i,hi,rfl⟩:=List.getElem_of_mem eb
        obtain⟨c0,jA,hf⟩:=src i _ (List.getElem?_eq_getElem hi)
        obtain⟨j,hj,rfl⟩:=List.getElem_of_mem hb
        obtain⟨a0,kQ,JB⟩:=(iS hf).2 j _ (List.getElem?_eq_getElem hj)
        obtain⟨v,_,nN⟩:=R.at_ _ _ _ _ jA kQ
        exact((ih _ _ _ nN JB).2 (R.flat c0 (List.mem_of_getElem? jA) a0 (List.mem_of_getElem? kQ))).2
       ·obtain⟨c0,a0,v,_,_,hv,_⟩:=cell i j hi hj
        simp only[hv,Option.getD_some]
       ·obtain⟨c0,jA,hf⟩:=src i cs hi
        obtain⟨a0,kQ,JB⟩:=(iS hf).2 j b hj
        have qp:i<len:=by rw[<-hlen];exact(List.getElem?_eq_some_iff.1 hi).1
        have iZ:j<row.sz:=by rw[<-R.len c0 (List.mem_of_getElem? jA)];exact(List.getElem?_eq_some_iff.1 kQ).1
        obtain⟨c1,a1,v,e1,e2,hv,nN⟩:=cell i j qp iZ
        rw[jA]at e1;injection e1 with e1;subst e1
        rw[kQ]at e2;injection e2 with e2;subst e2
        simp only[hv,Option.getD_some]
        exact((ih _ _ _ nN JB).2 (R.flat c0 (List.mem_of_getElem? jA) a0 (List.mem_of_getElem? kQ))).1
     ·simp at h
    ·simp at h
   ·simp at h
  |ptr id i off=>
   rw[gE]at h
   split at h
   ·rename_i row hg
    split at h
    ·rename_i hw
     split at h
     ·rename_i c0 jA
      simp only[Option.map_eq_some_iff]at h
      obtain⟨cs,eb,rfl⟩:=h
      obtain⟨B,hB,R,PR⟩:=rU id row hg hw
      obtain⟨B',rfl,ei,hk⟩:=gZ hr
      rw[hB]at ei;injection ei with ei;subst ei
      replace R:=R.row hk
      obtain⟨l1,l2⟩:=iS eb
      have at_:∀j b,cs[j]? =some b->∃a0 v,w.cell? ⟨B.b,i*B.sz+off+j,none⟩=some v/\dF P w D ι a0 v/\a0.cell=true/\gE g n a0=some b:=fun j b hj=>by
       obtain⟨a0,kQ,hf⟩:=l2 j b hj
       rw[List.getElem?_drop]at kQ
       obtain⟨v,hv,nN⟩:=R.at_ _ _ _ _ jA kQ
       refine⟨a0,v,?_,nN,R.flat c0 (List.mem_of_getElem? jA) a0 (List.mem_of_getElem? kQ),hf⟩
       rw[R.sz,Nat.add_assoc];exact hv
      refine both (.eT cs B.b _ (fun j=>(w.cell? ⟨B.b,i*B.sz+off+j,none⟩).getD undef) PR (fun b hb=>?_) (fun j hj=>?_) (fun j b hj=>?_)) rfl
      ·obtain⟨j,hj,rfl⟩:=List.getElem_of_mem hb
       obtain⟨a0,v,_,nN,hc,hf⟩:=at_ j _ (List.getElem?_eq_getElem hj)
       exact((ih _ _ _ nN hf).2 hc).2
      ·obtain⟨a0,v,hv,_⟩:=at_ j _ (List.getElem?_eq_getElem hj)
       simp only[hv,Option.getD_some]
      ·obtain⟨a0,v,hv,nN,hc,hf⟩:=at_ j b hj
       simp only[hv,Option.getD_some]
       exact((ih _ _ _ nN hf).2 hc).1
     ·simp at h
    ·simp at h
   ·simp at h
  |agg cs=>
   rw[gE]at h
   simp only[Option.map_eq_some_iff]at h
   obtain⟨r',nL,rfl⟩:=h
   obtain⟨vs,f,rfl,h1,h2,h3,h4⟩:=iw hr
   obtain⟨l1,l2⟩:=iS nL
   have hI:jK P w D2 (.agg r') (.agg vs):=.agg r' vs f (by rw[h1,l1]) (fun b hb=>by
    obtain⟨j,hj,rfl⟩:=List.getElem_of_mem hb
    obtain⟨a0,kQ,hf⟩:=l2 j _ (List.getElem?_eq_getElem hj)
    exact((ih _ _ _ (h4 j a0 kQ) hf).2 (h2 a0 (List.mem_of_getElem? kQ))).2) (fun j hj=>h3 j (by rw[<-l1];exact hj)) (fun j b hj=>by
    obtain⟨a0,kQ,hf⟩:=l2 j b hj
    exact((ih _ _ _ (h4 j a0 kQ) hf).2 (h2 a0 (List.mem_of_getElem? kQ))).1)
   exact⟨.eG _ _ hI,fun hc=>by simp[AV.cell]at hc⟩
  |fK cs=>
   rw[gE]at h
   simp only[Option.map_eq_some_iff]at h
   obtain⟨r',nL,rfl⟩:=h
   obtain⟨vs,f,rfl,h1,h3,h4⟩:=uz hr
   obtain⟨l1,l2⟩:=iS nL
   exact⟨.fK r' vs f (by rw[h1,l1]) (fun j hj=>h3 j (by rw[<-l1];exact hj)) (fun j b hj=>by
    obtain⟨a0,kQ,hf⟩:=l2 j b hj
    exact(ih _ _ _ (h4 j a0 kQ) hf).1),fun hc=>by simp[AV.cell]at hc⟩
  |fn f dJ=>rw[gE]at h<;>(try simp at h)<;>(try(intros;simp_all))
  |int k m=>rw[gE]at h<;>(try simp at h)<;>(try subst h)<;>(try(rw[dO hr];exact⟨.eG _ _ (.int _ _),fun _=>⟨.int _ _,rfl⟩⟩))<;>(try(intros;simp_all))
  |bool b=>rw[gE]at h<;>(try simp at h)<;>(try subst h)<;>(try(rw[fm hr];exact⟨.eG _ _ (.bool _),fun _=>⟨.bool _,rfl⟩⟩))<;>(try(intros;simp_all))
  |str b=>rw[gE]at h<;>(try simp at h)<;>(try subst h)<;>(try(rw[fM hr];exact⟨.eG _ _ (.str _),fun _=>⟨.str _,rfl⟩⟩))<;>(try(intros;simp_all))
  |bB=>rw[gE]at h<;>(try simp at h)<;>(try subst h)<;>(try(rw[iK hr];exact⟨.eG _ _ .bB,fun _=>⟨.bB,rfl⟩⟩))<;>(try(intros;simp_all))
  |iU=>rw[gE]at h<;>(try simp at h)<;>(try subst h)<;>(try(rw[wZ hr];exact⟨.eG _ _ .iU,fun _=>⟨.iU,rfl⟩⟩))<;>(try(intros;simp_all))
  |jd=>rw[gE]at h<;>(try simp at h)<;>(try subst h)<;>(try(rw[CB hr];exact⟨.eG _ _ .jd,fun _=>⟨.jd,rfl⟩⟩))<;>(try(intros;simp_all))
  |iF=>rw[gE]at h<;>(try simp at h)<;>(try subst h)<;>(try(rw[wY hr];exact⟨.eG _ _ .iF,fun _=>⟨.iF,rfl⟩⟩))<;>(try(intros;simp_all))
  |err g t s=>rw[gE]at h<;>(try simp at h)<;>(try(intros;simp_all))
  |tD f dJ=>rw[gE]at h<;>(try simp at h)<;>(try(intros;simp_all))
  |gO=>rw[gE]at h<;>(try simp at h)<;>(try subst h)<;>(try(cases hr with|eG _ _ hr=>cases hr;exact both .gO rfl))<;>(try(intros;simp_all))
  |sl rows=>rw[gE]at h<;>(try simp at h)<;>(try(intros;simp_all))
  |eT cs=>rw[gE]at h<;>(try simp at h)<;>(try(intros;simp_all))
end
end Go.Proofs.YtakkdjfmiffbfaaGreatDoor.V

namespace Go.Proofs.YtakkdjfmiffbfaaGreatDoor.V
open Go.RowKit
variable {P:Program} {w w':World} {D D':Nat->Prop} {ι ι':Names}
section
variable {g:Rows} {hs:Nat} {env:Env} {a:Act} {o:Oper} {id:Id} {v:AV}
theorem fY.CR (S:fY P hs D ι g w) {i:Id} {r r':Row} {B:rZ} {ob:Obj} (hid:g i=some r) (hw:r.w=true) (hB:ι i=some B)
  (hR:(∀a v,dF P w D ι a v->dF P {w with heap:=w.heap.setIfInBounds B.b ob} D ι a v)->(w.heap.setIfInBounds B.b ob)[B.b]? =some ob->gD P {w with heap:=w.heap.setIfInBounds B.b ob} D ι B r'):
  fY P hs D ι (bH g i r') {w with heap:=w.heap.setIfInBounds B.b ob}/\Step hs D ι w D ι {w with heap:=w.heap.setIfInBounds B.b ob}:=by
 obtain⟨B0,BJ,R,lx,pI⟩:=S.row i r hid
 rw[hB]at BJ;injection BJ with BJ;subst BJ
 have other:∀b,b≠B.b->(w.heap.setIfInBounds B.b ob)[b]? =w.heap[b]? :=fun b hb=>by simp[Ne.symm hb]
 have hd:∀b,D b->(w.heap.setIfInBounds B.b ob)[b]? =w.heap[b]? :=fun b hb=>other b (by rintro rfl;exact pI hw hb)
 have hr:∀a v,dF P w D ι a v->dF P {w with heap:=w.heap.setIfInBounds B.b ob} D ι a v:=fun a v h=>h.frame hd (fun _ h=>h) (fun _ _ h=>h)
 refine⟨⟨by simpa using S.lo,fun b hb=>by simpa using S.dead b hb,fun j q h=>?_,fun j j' q q' C C' h h' JR hC tR he=>?_⟩,⟨⟨rfl,rfl,rfl,by simp,fun k hk=>other k (by have:=lx hw;omega)⟩,hd,fun _ h=>h,fun _ _ h=>h,fun _ h=>.inl h⟩⟩
 ·unfold bH at h
  split at h
  ·rename_i e
   subst e
   injection h with h;subst h
   exact⟨B,hB,hR hr (by simp[R.lt]),fun _=>lx hw,fun _=>pI hw⟩
  ·rename_i e
   obtain⟨C,hC,RC,k1,k2⟩:=S.row j q h
   refine⟨C,hC,RC.frame (other C.b (fun CZ=>e ?_)) hr,k1,k2⟩
   exact(S.inj i j r q B C hid h hw hB hC CZ.symm).symm
 ·unfold bH at h h'
  have get:∀j p,(if j=i then some r' else g j)=some p->∃p0,g j=some p0/\(p.w=true->p0.w=true):=fun j p hp=>by
   split at hp
   ·rename_i e;subst e;injection hp with hp;subst hp;exact⟨r,hid,fun _=>hw⟩
   ·exact⟨p,hp,fun h=>h⟩
  obtain⟨p,hp,RI⟩:=get _ _ h
  obtain⟨p',MG,_⟩:=get _ _ h'
  exact S.inj j j' p p' C C' hp MG (RI JR) hC tR he
theorem Fj {s:TS} {x y:AV} {u v:Value} (he:eA s x y=some true) (hx:dF P w D ι x u) (hy:dF P w D ι y v):u=v/\∀n,Instr.sameBits n u v=true:=by
 unfold eA at he
 split at he
 ·split at he
  ·rename_i hk
   subst hk
   simp at he;subst he
   rw[dO hx,dO hy]
   exact⟨rfl,fun n=>by cases n<;>simp[Instr.sameBits]⟩
  ·cases he
 ·simp at he;subst he
  rw[fm hx,fm hy]
  exact⟨rfl,fun n=>by cases n<;>simp[Instr.sameBits]⟩
 ·simp at he;subst he
  rw[fM hx,fM hy]
  exact⟨rfl,fun n=>by cases n<;>simp[Instr.sameBits,IM]⟩
 ·cases he
theorem Bv {n:Nat}:∀{ts:List TS} {xs ys:List AV} {vs us:List Value},ed ts xs ys=some true->vs.length=xs.length->us.length=ys.length->(∀(j:Nat) (a:AV),xs[j]? =some a->∃u,vs[j]? =some u/\dF P w D ι a u)->(∀(j:Nat) (a:AV),ys[j]? =some a->∃u,us[j]? =some u/\dF P w D ι a u)->
  us.length=vs.length/\(us.zip vs).all (fun p=>Instr.sameBits n p.1 p.2)=true
 |[],[],[],vs,us,_,h1,h2,_,_=>by
  cases vs<;>cases us<;>simp_all
 |[],x::xs,ys,vs,us,h,_,_,_,_=>by simp[ed]at h
 |[],[],y::ys,vs,us,h,_,_,_,_=>by simp[ed]at h
 |t::ts,[],ys,vs,us,h,_,_,_,_=>by simp[ed]at h
 |t::ts,x::xs,[],vs,us,h,_,_,_,_=>by simp[ed]at h
 |t::ts,x::xs,y::ys,[],us,h,h1,_,_,_=>by simp at h1
 |t::ts,x::xs,y::ys,v::vs,[],h,_,h2,_,_=>by simp at h2
 |t::ts,x::xs,y::ys,v::vs,u::us,h,h1,h2,hx,hy=>by
  unfold ed at h
  split at h
  ·rename_i a b ha hb
   simp only[Option.some.injEq,Bool.and_eq_true]at h
   obtain⟨rfl,rfl⟩:=h
   obtain⟨v',nF,rv⟩:=hx 0 x rfl
   obtain⟨u',C1,ru⟩:=hy 0 y rfl
   simp at nF C1;subst nF;subst C1
   obtain⟨e1,e2⟩:=Fj ha rv ru
   obtain⟨q1,q2⟩:=Bv (n:=n) hb (by simpa using h1) (by simpa using h2) (fun j a hj=>by simpa using hx (j+1) a (by simpa using hj)) (fun j a hj=>by simpa using hy (j+1) a (by simpa using hj))
   refine⟨by simp[q1],?_⟩
   simp only[List.zip_cons_cons,List.all_cons,q2,Bool.and_true]
   rw[<-e1]
   have:=e2 n
   rw[<-e1]at this
   exact this
  ·cases h
theorem Ci {m:MK} {key:List AV}:∀{rows:List (List AV)} {i j:Nat},fB m key rows i=some (some j)->∃cs,i<=j/\rows[j-i]? =some cs/\ed m.ts key (cs.take m.ks)=some true
 |[],i,j,h=>by simp[fB]at h
 |cs::rows,i,j,h=>by
  unfold fB at h
  split at h
  ·rename_i hq
   simp at h;subst h
   exact⟨cs,Nat.le_refl _,by simp,hq⟩
  ·obtain⟨c,h1,h2,h3⟩:=Ci h
   exact⟨c,ab,by rw[show j-i=(j-(i+1))+1 by omega];simpa using h2,h3⟩
  ·cases h
theorem wE {m:MK} {k:AV} {rows:List (List AV)} {fi:Option Nat} (h:fb m k rows=some fi):k.isAgg=m.ka/\k.cells.length=m.ks/\(k.cells.all AV.cell=true)/\fB m k.cells rows 0=some fi:=by
 unfold fb at h
 split at h
 ·rename_i hc;exact⟨hc.1,hc.2.1,hc.2.2,h⟩
 ·cases h
theorem KA {m:MK} {k y:AV} (h1:k.isAgg=m.ka) (h2:k.cells.length=m.ks):part m.ka m.ks (k.cells++[y])=some k/\(k.cells++[y])[m.ks]? =some y:=by
 refine⟨?_,by rw[List.getElem?_append_right ab,h2,Nat.sub_self];rfl⟩
 cases hk:m.ka with
 |false=>
  rw[hk]at h1
  rw[vh h1];rfl
 |true=>
  rw[hk]at h1
  cases k<;>simp[AV.isAgg]at h1
  rename_i cs
  simp only[AV.cells]at h2 ⊢
  simp only[part,if_true]
  rw[if_pos (by simp;omega),<-h2,List.take_left']
  rfl
theorem stays {k:TypeId} {m:MK} (hK:E0 P k m) {key kv:AV} {u Cs:Value} {cs:List AV} (h1:key.isAgg=m.ka) (hr:dF P w D ι key u) (hp:part m.ka m.ks cs=some kv) (ho:dF P w D ι kv Cs) (he:ed m.ts key.cells (cs.take m.ks)=some true):(Instr.keyThatStays Cs u).run P w=.ok u w:=by
 have hs:Instr.sameBits 10000 Cs u=true:=by
  rcases hK with⟨s,rfl,hs⟩|⟨fs,ts,rfl,qR,tx,ee,eJ⟩
  ·rw[vh h1]at he
   cases cs with
   |nil=>simp[part]at hp
   |cons c l=>
    simp[part]at hp;subst hp
    simp only[MK.ks,List.length_cons,List.length_nil,Nat.zero_add,List.take_succ_cons,List.take_zero,ed]at he
    cases hq:eA s key c with
    |none=>rw[hq]at he;simp at he
    |some b=>
     rw[hq]at he;simp at he;subst he
     obtain⟨e1,e2⟩:=Fj hq hr ho
     rw[<-e1]
     have:=e2 10000
     rwa [<-e1]at this
  ·cases key<;>simp[AV.isAgg]at h1
   rename_i ks
   simp only[part,if_true]at hp
   split at hp
   ·simp only[Option.some.injEq]at hp;subst hp
    obtain⟨vs,rfl,n1,r1⟩:=rC hr
    obtain⟨us,rfl,n2,r2⟩:=rC ho
    obtain⟨q1,q2⟩:=Bv (n:=9999) (vs:=vs.toList) (us:=us.toList) he (by simpa[AV.cells]using n1) (by simpa using n2) (fun j a hj=>by simpa using r1 j a hj) (fun j a hj=>by simpa using r2 j a hj)
    simp only[Instr.sameBits,Bool.and_eq_true,beq_iff_eq]
    exact⟨by simpa using q1,q2⟩
   ·cases hp
 simp[Instr.keyThatStays,hs]
theorem K6 {es:Array MapEntry} {clock:Nat} (h:E4 es clock) (k v:Value):E4 (es.push ⟨k,v,clock⟩) (clock+1):=by
 refine⟨fun x hx=>?_,?_⟩
 ·simp only[Array.toList_push,List.mem_append,List.mem_singleton]at hx
  rcases hx with hx|rfl
  ·have:=h.1 x hx;omega
  ·exact Nat.lt_succ_self _
 ·simp only[Array.toList_push,List.map_append,List.map_cons,List.map_nil]
  refine List.nodup_append.2 ⟨h.2,by simp,fun a ha b hb=>?_⟩
  obtain⟨x,hx,rfl⟩:=List.mem_map.1 ha
  simp at hb;subst hb
  have:=h.1 x hx;omega
theorem EL {es:Array MapEntry} {clock:Nat} (h:E4 es clock) (j:Nat) (k v:Value):E4 (es.modify j fun e=>{e with key:=k,val:=v}) clock:=by
 have e:(es.modify j fun e=>{e with key:=k,val:=v}).toList.map (·.born)=es.toList.map (·.born):=by
  refine List.ext_getElem? fun i=>?_
  simp only[List.getElem?_map,Array.getElem?_toList,Array.getElem?_modify]
  split
  ·cases es[i]? <;>rfl
  ·rfl
 refine⟨fun x hx=>?_,by rw[e];exact h.2⟩
 have hb:x.born∈(es.modify j fun e=>{e with key:=k,val:=v}).toList.map (·.born):=List.mem_map_of_mem hx
 rw[e]at hb
 obtain⟨y,hy,hyb⟩:=List.mem_map.1 hb
 rw[<-hyb];exact h.1 y hy
theorem HR {es:Array MapEntry} {clock:Nat} (h:E4 es clock) {j:Nat} (hj:j<es.size):E4 (es.eraseIdxIfInBounds j) clock:=by
 have e:(es.eraseIdxIfInBounds j).toList=es.toList.eraseIdx j:=by
  unfold Array.eraseIdxIfInBounds
  rw[dif_pos hj,Array.toList_eraseIdx]
 refine⟨fun x hx=>h.1 x ((List.eraseIdx_sublist _ _).subset (by rwa [e]at hx)),?_⟩
 rw[e]
 exact((List.eraseIdx_sublist es.toList j).map (·.born)).nodup h.2
theorem BB {k y:AV} (h1:k.cells.all AV.cell=true) (h2:y.cell=true):∀a∈k.cells++[y],a.cell=true:=fun a ha=>by
 rcases List.mem_append.1 ha with ha|ha
 ·exact List.all_eq_true.1 h1 a ha
 ·rw[List.mem_singleton.1 ha];exact h2
theorem Pv {t:TypeId} {x k y:Operand} {m:MK} {z:K} {x' k' y':O} {g':Rows} (S:fY P hs D ι g w) (E:db P w D ι env a) (ho:o.op=.mapUpdate t x k y∨o.op=.insert t x k y) (hc:r8 P t=some (m,z)) (hx:cO P x=some x') (hk:cO P k=some k') (hy:cO P y=some y')
  (hv:bj (.set m) [cY env x',cY env k',cY env y'] g=some g'):C7 P hs a o w D ι id .undef g':=by
 obtain⟨kt,e,i,zv,ht,hi,wb,Vf,hK⟩:=qC hc
 simp only[bj,Option.bind_eq_some_iff]at hv
 obtain⟨p,hp,fi,xL,hv⟩:=hv
 split at hv
 ·rename_i hcond
  obtain⟨hw,hyc,_⟩:=hcond
  simp only[Option.some.injEq]at hv;subst hv
  obtain⟨B,hu,hg,hB,uq,es,clock,hb,e8,hlen,hM⟩:=Am S (dQ E hx) hp
  have rk:=dQ E hk
  have ry:=dQ E hy
  obtain⟨P6,res,hf,hF⟩:=vD (B:=B) hK rk e8 hM xL
  obtain⟨k1,k2,k3,k4⟩:=wE xL
  obtain⟨B',ei,R,_⟩:=S.row p.1 p.2 hg
  rw[hB]at ei;injection ei with ei;subst ei
  obtain⟨pk1,pk2⟩:=KA (y:=cY env y') k1 k2
  have jl:(getObj B.b).run P w=.ok (.map es clock) w:=MapKept.run_getObj_map hb
  rcases hF with⟨rfl,rfl⟩|⟨j,en,rfl,he,rfl⟩
  ·have nD:=S.CR (ob:=.map (es.push ⟨a.eval k,a.eval y,clock⟩) (clock+1)) (r':={p.2 with rows:=c6 p.2.rows ((cY env k').cells++[cY env y']) none}) hg hw hB fun hr iT=>⟨R.sz,fun cs eb=>?_,fun tq=>(by rw[uq]at tq;cases tq),fun m' yH=>?_,fun c hc=>(by rw[uq]at hc;cases hc)⟩
   ·refine⟨undef,_,ι,.inr ⟨?_,rfl⟩,nD.2,nD.1,dF.undef,fun _ _=>rfl⟩
    rcases ho with ho|ho<;>
    ·simp only[execOp,ho,Instr.mapUpdate,hu,Sem.run_bind,run_underlying ht,Result.andThen_ok,jl,P6,hf,MapKept.run_setObj_map _ hb,Sem.run_pure]
   ·rcases List.mem_append.1 eb with h|h
    ·exact R.flat cs h
    ·rw[List.mem_singleton.1 h];exact BB k3 hyc
   ·rw[uq]at yH;simp only[Option.some.injEq,BK.map.injEq]at yH;subst yH
    refine⟨(R.map m uq).1,_,_,iT,by simp[c6,e8],⟨fun cs eb=>?_,K6 hlen.2 _ _⟩,fun q cs hq=>?_⟩
    ·rcases List.mem_append.1 eb with h|h
     ·exact hlen.1 cs h
     ·rw[List.mem_singleton.1 h];simp[k2]
    ·rcases Nat.lt_or_ge q p.2.rows.length with eR|xN
     ·simp only[c6]at hq
      rw[List.getElem?_append_left eR]at hq
      obtain⟨en,kv,vv,q1,q2,q3,q4,q5⟩:=hM q cs hq
      exact⟨en,kv,vv,by rw[Array.getElem?_push_lt ab];rw[Array.getElem?_eq_getElem ab]at q1;simpa using q1,q2,q3,hr _ _ q4,hr _ _ q5⟩
     ·simp only[c6]at hq
      rw[List.getElem?_append_right xN]at hq
      have Oo:q=p.2.rows.length:=by
       have:=(List.getElem?_eq_some_iff.1 hq).1
       simp at this;omega
      subst Oo
      simp at hq;subst hq
      exact⟨⟨a.eval k,a.eval y,clock⟩,_,_,by rw[<-e8];simp,pk1,pk2,hr _ _ rk,hr _ _ ry⟩
  ·simp only[Nat.zero_add]at k4 xL hf ⊢
   obtain⟨UN,_,Mw,heq⟩:=Ci k4
   simp only[Nat.sub_zero]at Mw
   obtain⟨Sh,kv,vv,q1,q2,_,q4,_⟩:=hM j UN Mw
   have Ol:Sh=en:=by
    have h1:es.toList[j]? =some Sh:=by simpa using q1
    rw[he]at h1;injection h1 with h1;exact h1.symm
   subst Ol
   have ee:=stays (w:=w) hK k1 rk q2 q4 heq
   have nD:=S.CR (ob:=.map (es.modify j fun e=>{e with key:=a.eval k,val:=a.eval y}) clock) (r':={p.2 with rows:=c6 p.2.rows ((cY env k').cells++[cY env y']) (some j)}) hg hw hB fun hr iT=>⟨R.sz,fun cs eb=>?_,fun tq=>(by rw[uq]at tq;cases tq),fun m' yH=>?_,fun c hc=>(by rw[uq]at hc;cases hc)⟩
   ·refine⟨undef,_,ι,.inr ⟨?_,rfl⟩,nD.2,nD.1,dF.undef,fun _ _=>rfl⟩
    rcases ho with ho|ho<;>
    ·simp only[execOp,ho,Instr.mapUpdate,hu,Sem.run_bind,run_underlying ht,Result.andThen_ok,jl,P6,hf,q1,Option.map_some,Option.getD_some,ee,MapKept.run_setObj_map _ hb,Sem.run_pure]
   ·rcases List.mem_or_eq_of_mem_set eb with h|h
    ·exact R.flat cs h
    ·rw[h];exact BB k3 hyc
   ·rw[uq]at yH;simp only[Option.some.injEq,BK.map.injEq]at yH;subst yH
    have iZ:=(List.getElem?_eq_some_iff.1 Mw).1
    refine⟨(R.map m uq).1,_,_,iT,by simp[c6,e8],⟨fun cs eb=>?_,EL hlen.2 _ _ _⟩,fun q cs hq=>?_⟩
    ·rcases List.mem_or_eq_of_mem_set eb with h|h
     ·exact hlen.1 cs h
     ·rw[h];simp[k2]
    ·simp only[c6,List.getElem?_set]at hq
     split at hq
     ·rename_i hjq
      subst hjq
      (try rw[if_pos iZ]at hq)
      injection hq with hq;subst hq
      exact⟨{Sh with key:=a.eval k,val:=a.eval y},_,_,by rw[Array.getElem?_modify];simp[q1],pk1,pk2,hr _ _ rk,hr _ _ ry⟩
     ·rename_i hjq
      obtain⟨en,kv,vv,q1,q2,q3,q4,q5⟩:=hM q cs hq
      exact⟨en,kv,vv,by rw[Array.getElem?_modify];simp[hjq,q1],q2,q3,hr _ _ q4,hr _ _ q5⟩
 ·cases hv
theorem Pu {t t':TypeId} {x k:Operand} {m:MK} {z:K} {x' k':O} {g':Rows} (S:fY P hs D ι g w) (E:db P w D ι env a) (ho:o.op=.call {callee:=.builtin .delete,args:= #[x,k],argTypes:= #[t,t']}) (hc:r8 P t=some (m,z)) (hx:cO P x=some x') (hk:cO P k=some k')
  (hv:bj (.del m) [cY env x',cY env k'] g=some g'):C7 P hs a o w D ι id .undef g':=by
 obtain⟨kt,e,i,zv,ht,hi,wb,Vf,hK⟩:=qC hc
 simp only[bj,Option.bind_eq_some_iff]at hv
 obtain⟨p,hp,fi,xL,hv⟩:=hv
 split at hv
 ·rename_i hw
  simp only[Option.some.injEq]at hv;subst hv
  obtain⟨B,hu,hg,hB,uq,es,clock,hb,e8,hlen,hM⟩:=Am S (dQ E hx) hp
  have rk:=dQ E hk
  obtain⟨P6,res,hf,hF⟩:=vD (B:=B) hK rk e8 hM xL
  obtain⟨k1,k2,k3,k4⟩:=wE xL
  obtain⟨B',ei,R,_⟩:=S.row p.1 p.2 hg
  rw[hB]at ei;injection ei with ei;subst ei
  have jl:(getObj B.b).run P w=.ok (.map es clock) w:=MapKept.run_getObj_map hb
  have go:∀ob,(Builtin.delete_ #[t,t'] o.type #[a.eval x,a.eval k]).run P w=.ok (.tuple #[]) {w with heap:=w.heap.setIfInBounds B.b ob}->(execOp a.eval o).run P w=.ok (.value undef) {w with heap:=w.heap.setIfInBounds B.b ob}:=fun ob h=>by
   simp only[execOp,ho,resolve,Sem.run_bind,Sem.run_pure,Result.andThen_ok,invoke,builtin,Array.map]
   simp[h,undef]
  rcases hF with⟨rfl,rfl⟩|⟨j,en,rfl,he,rfl⟩
  ·have nD:=S.CR (ob:=.map es clock) (r':={p.2 with rows:=da p.2.rows none}) hg hw hB fun hr iT=>⟨R.sz,R.flat,fun tq=>(by rw[uq]at tq;cases tq),fun m' yH=>?_,fun c hc=>(by rw[uq]at hc;cases hc)⟩
   ·refine⟨undef,_,ι,.inl (go _ ?_),nD.2,nD.1,dF.undef,fun _ _=>rfl⟩
    simp[Builtin.delete_,hu,run_underlying ht,jl,P6,hf,MapKept.run_setObj_map _ hb]
   ·rw[uq]at yH;simp only[Option.some.injEq,BK.map.injEq]at yH;subst yH
    exact⟨(R.map m uq).1,_,_,iT,e8,hlen,fun q cs hq=>by
     obtain⟨en,kv,vv,q1,q2,q3,q4,q5⟩:=hM q cs hq
     exact⟨en,kv,vv,q1,q2,q3,hr _ _ q4,hr _ _ q5⟩⟩
  ·simp only[Nat.zero_add]at hf ⊢
   have iZ:j<es.size:=by have:=(List.getElem?_eq_some_iff.1 he).1;simpa using this
   have nD:=S.CR (ob:=.map (es.eraseIdxIfInBounds j) clock) (r':={p.2 with rows:=da p.2.rows (some j)}) hg hw hB fun hr iT=>⟨R.sz,fun cs eb=>R.flat cs (List.mem_of_mem_eraseIdx eb),fun tq=>(by rw[uq]at tq;cases tq),fun m' yH=>?_,fun c hc=>(by rw[uq]at hc;cases hc)⟩
   ·refine⟨undef,_,ι,.inl (go _ ?_),nD.2,nD.1,dF.undef,fun _ _=>rfl⟩
    simp[Builtin.delete_,hu,run_underlying ht,jl,P6,hf,MapKept.run_setObj_map _ hb]
   ·rw[uq]at yH;simp only[Option.some.injEq,BK.map.injEq]at yH;subst yH
    have he2:∀q,(es.eraseIdxIfInBounds j)[q]? =(es.toList.eraseIdx j)[q]? :=fun q=>by
     unfold Array.eraseIdxIfInBounds
     rw[dif_pos iZ,<-Array.getElem?_toList,Array.toList_eraseIdx]
    refine⟨(R.map m uq).1,_,_,iT,by simp[da,Array.eraseIdxIfInBounds,iZ,List.length_eraseIdx,<-e8],⟨fun cs eb=>hlen.1 cs (List.mem_of_mem_eraseIdx eb),HR hlen.2 iZ⟩,fun q cs hq=>?_⟩
    simp only[da,List.getElem?_eraseIdx]at hq
    split at hq
    ·rename_i eR
     obtain⟨en,kv,vv,q1,q2,q3,q4,q5⟩:=hM q cs hq
     exact⟨en,kv,vv,by rw[he2,List.getElem?_eraseIdx,if_pos eR];simpa using q1,q2,q3,hr _ _ q4,hr _ _ q5⟩
    ·rename_i eR
     obtain⟨en,kv,vv,q1,q2,q3,q4,q5⟩:=hM (q+1) cs hq
     exact⟨en,kv,vv,by rw[he2,List.getElem?_eraseIdx,if_neg eR];simpa using q1,q2,q3,hr _ _ q4,hr _ _ q5⟩
 ·cases hv
end
end Go.Proofs.YtakkdjfmiffbfaaGreatDoor.V
