/- A small language in which the program's functions are read by value: its values, its operations, its code, and how the program's code is brought into it. -/
import Derived.WalkKit
import Derived.WalkSpells
import Derived.WalkLawsBesides
import Derived.Lib.Hide
import Derived.Great.BuildSlice
import Derived.Conc.LoneCalls
import Derived.MapKept
import Derived.WideKeyRuns
set_option linter.unusedVariables false
set_option linter.unusedSimpArgs false
set_option maxRecDepth 100000
set_option maxHeartbeats 16000000
namespace Go.Proofs.YtalkncaokeaifaaGreatDoor.V
open Go.RowKit
structure Id where
  site:Nat
  cV:Nat
  deriving DecidableEq,Repr
inductive TS where
  |tI|tB|tS
  deriving Repr,DecidableEq
structure MK where
  ka:Bool
  ts:List TS
  deriving Repr,DecidableEq
inductive AV where
  |int (k:IntKind) (n:Int)
  |bool (b:Bool)
  |str (s:ByteArray)
  |bP|gQ|iS
  |sl (rows:List (List AV))
  |own (id:Id) (off len:Nat)
  |ptr (id:Id) (i off:Nat)
  |fe (cs:List AV)
  |agg (cs:List AV)
  |fN (vs:List AV)
  |fn (f:Nat) (dG:List AV)
  |map (id:Id) (m:MK)
  |jf
  |iF
  |err (g t:Nat) (s:ByteArray)
  |tX (f:Nat) (first:List AV)
  |qR (id:Id)
  deriving Inhabited
def AV.undef:AV:=.fN []
def AV.cell:AV->Bool
  | .agg _| .fN _=>false
  |_=>true
def AV.cells:AV->List AV
  | .agg cs=>cs
  |v=>[v]
inductive K where
  |int (k:IntKind) (n:Int)
  |bool (b:Bool)
  |str (l:List UInt8)
  |bP|gQ|iS|jf|iF
  deriving Repr,DecidableEq
def K.val:K->Value
  | .int k n=>.int k n
  | .bool b=>.bool b
  | .str l=>.string ⟨l.toArray⟩
  | .bP=>.slice none 0 0
  | .gQ=>.pointer none
  | .iS=>.nilFunc
  | .jf=>.map none
  | .iF=>.nilIface
def K.av:K->AV
  | .int k n=>.int k n
  | .bool b=>.bool b
  | .str l=>.str ⟨l.toArray⟩
  | .bP=>.bP
  | .gQ=>.gQ
  | .iS=>.iS
  | .jf=>.jf
  | .iF=>.iF
def HD:Value->Option K
  | .int k n=>some (.int k n)
  | .bool b=>some (.bool b)
  | .string s=>some (.str s.data.toList)
  | .slice none 0 0=>some .bP
  | .pointer none=>some .gQ
  | .nilFunc=>some .iS
  | .map none=>some .jf
  | .nilIface=>some .iF
  |_=>none
inductive O where
  |t (n:Nat)
  |k (c:K)
  |ka (cs:List K)
  |f (n:Nat)
  deriving Repr,DecidableEq
inductive MQ where
  |new (m:MK)
  |look (m:MK) (ok:Bool) (zero:K)
  |len (m:MK)
  deriving Repr,DecidableEq
inductive MW where
  |set (m:MK)
  |del (m:MK)
  deriving Repr,DecidableEq
inductive gD where
  |gG (x:O)
  |pick (c a b:O)
  |new (zero:List K)
  |box (x:O)
  |build (zero:List K) (parts:List (Nat×Nat×O))
  |oh (sz len:Nat) (parts:List O)
  |load (agg:Bool) (n:Nat) (a:O)
  |store (n:Nat) (a x:O)
  |IA (x:O)
  |bin (op:BinOp) (k:IntKind) (x y:O)
  |sh (left:Bool) (x y:O)
  |M7 (op:BinOp) (x y:O)
  |We (neg:Bool) (t:TS) (x y:O)
  |Wc (neg:Bool) (ts:List TS) (x y:O)
  |Tu (neg NW:Bool) (x:O)
  |Wd (neg:Bool) (x:O)
  |not (x:O)
  |neg (x:O)
  |conv (k:IntKind) (x:O)
  |FL (x:O)
  |slice (sz:Nat) (x:O) (lo hi:Option O)
  |Bg (x:O) (lo hi:Option O)
  |lk (off:Nat) (x:O)
  |field (agg:Bool) (off n:Nat) (x:O)
  |lq (sz:Nat) (x i:O)
  |NP (len sz:Nat) (x i:O)
  |NR (x i:O)
  |ew (agg:Bool) (len n:Nat) (x i:O)
  |extract (i:Nat) (x:O)
  |len (x:O)
  |N2 (x:O)
  |append (sz:Nat) (x y:O)
  |copy (sz:Nat) (x y:O)
  |clear (zero:List K) (x:O)
  |N5 (f:Nat) (dG:List O)
  |N6 (f:Nat) (first:List O)
  |pz (zero:List K) (len cap:O)
  |call (f:Nat) (args:List O)
  |tC (x:O) (args:List O)
  |mq (q:MQ) (xs:List O)
  |mw (q:MW) (xs:List O)
  |KR (x:O)
  |KJ (x:O)
  |snd (x y:O)
  |RS (x:O)
  |F0 (g:Nat)
  |bad
  deriving Repr,DecidableEq
structure cJ where
  dst:Option Nat
  op:gD
  guard:Option (Nat×Bool)
  site:Nat
  hid:List Nat
  deriving Repr,DecidableEq
def q (d:Nat) (op:gD) (s:Nat):cJ:=⟨some d,op,none,s,[]⟩
inductive VC where
  |skip
  |jo (draw:Bool) (ops:List cJ)
  |seq (a b:VC)
  |cond (c:O) (x y:VC)
  |block (id:Nat) (c:VC)
  |loop (c:VC)
  |exit (id:Nat)
  |ret
  |one (o:cJ) (c:VC)
  |both (a b:VC)
  |loc (t s:Nat) (y:O) (c:VC)
  |Qs (ops:List cJ)
  deriving Repr,DecidableEq
inductive nZ where
  |tmp (t:Nat)
  |cell (agg:Bool) (n:Nat) (t:Nat)
  deriving Repr,DecidableEq
structure Jg where
  ntmps:Nat
  zz:Nat
  body:VC
  res:List nZ
  deriving Repr,DecidableEq
def fY (P:Program) (f:Nat):Bool:=
  match P.funcs[f]? with
  |some fn=>fn.body.isSome&& !(fn.name== "runtime.NumGoroutine")
  |none=>false
def cO (P:Program):Operand->Option O
  | .tmp t=>some (.t t)
  | .const (.agg cs)=>(cs.toList.mapM HD).map O.ka
  | .const v=>(HD v).map O.k
  | .global _=>none
  | .func f=>if fY P f then some (.f f)else none
def jy (P:Program) (t:TypeId):Option (List K):=
  match P.info? t with
  |some i=>match i.zero with
    |some v=>if v.cells.size=i.size then v.cells.toList.mapM HD else none
    |none=>none
  |none=>none
def ej (P:Program) (t:TypeId):Option Nat:=(P.info? t).map (·.size)
def lY (P:Program) (t:TypeId):Option Bool:=
  match P.underlying t with
  |some (.struct _)|some (.array _ _)=>some true
  |some _=>some false
  |none=>none
inductive Xa where
  |sc (t:TS)|ag (ts:List TS)
  deriving Repr,DecidableEq
def fM (P:Program) (t:TypeId):Option TS:=
  match P.underlying t with
  |some .bool=>some .tB
  |some (.int _)=>some .tI
  |some .string=>some .tS
  |_=>none
def Eb (P:Program) (inner:List Field->Option (List TS)):Nat->List Field->Option (List TS)
  |_,[]=>some []
  |off,f::r=>
    if f.offset=off/\f.name≠ "_" then
      match fM P f.type with
      |some t=>if lY P f.type=some false then(Eb P inner (off+1) r).map (t::·)else none
      |none=>match P.underlying f.type with
        |some (.struct fs)=>if !P.stoodInHeld f.type then match inner fs.toList with
          |some ts=>if ej P f.type=some ts.length/\ts≠[]then(Eb P inner (off+ts.length) r).map (ts++·)else none
          |none=>none else none
        |_=>none
    else none
def eQ (P:Program):Nat->Nat->List Field->Option (List TS)
  |0,_,[]=>some []
  |0,_,_::_=>none
  |d+1,off,fs=>Eb P (eQ P d 0) off fs
def Xn (P:Program) (t:TypeId):Option Xa:=
  match fM P t with
  |some s=>some (.sc s)
  |none=>match P.underlying t with
    |some (.struct fs)=>if !P.stoodInHeld t&& !P.eqGuardType P.depth t then(eQ P 4 0 fs.toList).map Xa.ag else none
    |_=>none
def sw (P:Program) (fs:Array Field):List (Nat×O)->Option (List (Nat×Nat×O))
  |[]=>some []
  |(i,x)::r=>match fs[i]? with
    |some f=>match ej P f.type with
      |some n=>(sw P fs r).map ((f.offset,n,x)::·)
      |none=>none
    |none=>none
def sD (P:Program) (ps:Array (Nat×Operand)):Option (List (Nat×O)):=ps.toList.mapM fun(i,x)=>(cO P x).map (i,·)
def qP (P:Program):Option Operand->Option (Option O)
  |none=>some none
  |some x=>(cO P x).map some
def sy (P:Program) (neg:Bool) (t:TypeId) (x y:Operand):Option gD:=
  match y with
  | .const (.slice none 0 0)=>match P.underlying t with
    |some (.slice _)=>(cO P x).map (gD.Tu neg false)
    |_=>none
  | .const .nilFunc=>match P.underlying t with
    |some (.func ..)=>(cO P x).map (gD.Tu neg true)
    |_=>none
  | .const (.pointer none)=>match P.underlying t with
    |some (.pointer _)=>(cO P x).map (gD.Wd neg)
    |_=>none
  |_=>match Xn P t with
    |some (.sc s)=>do pure (.We neg s (<-cO P x) (<-cO P y))
    |some (.ag ts)=>do pure (.Wc neg ts (<-cO P x) (<-cO P y))
    |_=>none
def vp (P:Program) (op:BinOp) (t:TypeId) (x y:Operand):Option gD:=
  match op with
  | .eql=>sy P false t x y
  | .neq=>sy P true t x y
  | .shl=>do pure (.sh true (<-cO P x) (<-cO P y))
  | .shr=>do pure (.sh false (<-cO P x) (<-cO P y))
  |op=>match P.underlying t with
    |some (.int k)=>do pure (.bin op k (<-cO P x) (<-cO P y))
    |some .string=>do pure (.M7 op (<-cO P x) (<-cO P y))
    |_=>none
def sC (P:Program) (t:TypeId):Option (MK×K):=
  match P.underlying t with
  |some (.map k e)=>match lY P e,(P.info? e).bind (·.zero),fM P k,P.underlying k with
    |some false,some zv,some s,_=>(HD zv).map fun z=>(⟨false,[s]⟩,z)
    |some false,some zv,none,some (.struct fs)=>match eQ P 4 0 fs.toList,HD zv with
      |some ts,some z=>if !P.stoodInHeld k/\fs.toList.all (fun f=>(fM P f.type).isSome)then some (⟨true,ts⟩,z)else none
      |_,_=>none
    |_,_,_,_=>none
  |_=>none
def np (P:Program) (c:Call):Option gD:=
  match c.callee with
  | .builtin .len=>match c.args.toList,c.argTypes.toList with
    |[x],[t]=>match P.underlying t with
      |some (.slice _)=>(cO P x).map gD.len
      |some .string=>(cO P x).map gD.N2
      |some (.map _ _)=>match sC P t,cO P x with
        |some (m,_),some x=>some (.mq (.len m) [x])
        |_,_=>none
      |some (.chan _ _)=>(cO P x).map gD.KJ
      |_=>none
    |_,_=>none
  | .builtin .append=>match c.args.toList,c.argTypes.toList with
    |[x,y],[t,u]=>match P.underlying t with
      |some (.slice e)=>match ej P e,jy P e,P.info? e with
        |some (sz+1),some _,some i=>if i.bytes<=32768/\t=u then do pure (.append (sz+1) (<-cO P x) (<-cO P y))else none
        |_,_,_=>none
      |_=>none
    |_,_=>none
  | .builtin .clear=>match c.args.toList,c.argTypes.toList with
    |[x],[t]=>match P.underlying t with
      |some (.slice e)=>match ej P e,jy P e with
        |some (_+1),some z=>(cO P x).map (gD.clear z)
        |_,_=>none
      |_=>none
    |_,_=>none
  | .value (.func f)=>if fY P f then(c.args.toList.mapM (cO P)).map (gD.call f)else none
  | .value (.tmp t)=>(c.args.toList.mapM (cO P)).map (gD.tC (.t t))
  | .builtin .delete=>match c.args.toList,c.argTypes.toList with
    |[x,k],[t,_]=>match sC P t,cO P x,cO P k with
      |some (m,_),some x,some k=>some (.mw (.del m) [x,k])
      |_,_,_=>none
    |_,_=>none
  | .builtin .copy=>match c.args.toList,c.argTypes.toList with
    |[x,y],[t,_]=>match P.underlying t with
      |some (.slice e)=>match ej P e with
        |some (sz+1)=>do pure (.copy (sz+1) (<-cO P x) (<-cO P y))
        |_=>none
      |_=>none
    |_,_=>none
  |_=>none
def qC (P:Program) (o:Op):Option gD:=
  match o with
  | .move x| .assign x=>(cO P x).map gD.gG
  | .pick c a b=>do pure (.pick (<-cO P c) (<-cO P a) (<-cO P b))
  | .alloc e=>(jy P e).map gD.new
  | .box _ x=>(cO P x).map gD.box
  | .load t (.global g)=>if ej P t=some 1/\lY P t=some false then some (.F0 g)else none
  | .load t a=>do pure (.load (<-lY P t) (<-ej P t) (<-cO P a))
  | .store t a x=>do pure (.store (<-ej P t) (<-cO P a) (<-cO P x))
  | .nilCheck x=>(cO P x).map gD.IA
  | .binOp op t x y _=>vp P op t x y
  | .unOp .not _ x=>(cO P x).map gD.not
  | .unOp .neg _ x=>(cO P x).map gD.neg
  | .convert s d x=>match P.underlying s,P.underlying d with
    |some (.int _),some (.int k)=>(cO P x).map (gD.conv k)
    |some .string,some .string=>(cO P x).map gD.FL
    |_,_=>none
  | .slice t x lo hi none=>match P.underlying t with
    |some (.slice e)=>do
      pure (.slice (<-ej P e) (<-cO P x) (<-qP P lo) (<-qP P hi))
    |some .string=>do pure (.Bg (<-cO P x) (<-qP P lo) (<-qP P hi))
    |_=>none
  | .fieldAddr s x i=>match P.underlying s with
    |some (.struct fs)=>match fs[i]? with
      |some f=>match ej P f.type with
        |some (_+1)=>(cO P x).map (gD.lk f.offset)
        |_=>none
      |none=>none
    |_=>none
  | .field s x i=>match P.underlying s with
    |some (.struct fs)=>match fs[i]? with
      |some f=>do pure (.field (<-lY P f.type) f.offset (<-ej P f.type) (<-cO P x))
      |none=>none
    |_=>none
  | .indexAddr t x i=>match P.underlying t with
    |some (.slice e)=>match ej P e with
      |some (m+1)=>do pure (.lq (m+1) (<-cO P x) (<-cO P i))
      |_=>none
    |some (.array len e)=>match ej P e with
      |some (m+1)=>do pure (.NP len (m+1) (<-cO P x) (<-cO P i))
      |_=>none
    |_=>none
  | .index t x i=>match P.underlying t with
    |some .string=>do pure (.NR (<-cO P x) (<-cO P i))
    |some (.array len e)=>do pure (.ew (<-lY P e) len (<-ej P e) (<-cO P x) (<-cO P i))
    |_=>none
  | .extract x i=>(cO P x).map (gD.extract i)
  | .build t ps=>match P.underlying t with
    |some (.struct fs)=>
      match jy P t,sD P ps with
      |some z,some l=>
        if fs.all (fun f=>(P.info? f.type).isSome)then(sw P fs l).map (gD.build z)else none
      |_,_=>none
    |some (.array _ e)=>
      match jy P t,sD P ps,ej P e with
      |some z,some l,some n=>some (.build z (l.map fun(i,x)=>(i*n,n,x)))
      |_,_,_=>none
    |_=>none
  | .buildSlice t len ps=>match P.underlying t with
    |some (.slice e)=>match ej P e,jy P e,sD P ps with
      |some (sz+1),some _,some l=>
        if len*(sz+1)<=4096/\l.map (·.1)=List.range len then some (.oh (sz+1) len (l.map (·.2)))else none
      |_,_,_=>none
    |_=>none
  | .makeFunc (.func f) first dG=>
    if first= #[]/\fY P f then(dG.toList.mapM (cO P)).map (gD.N5 f)else if dG= #[]/\fY P f then(first.toList.mapM (cO P)).map (gD.N6 f)else none
  | .makeSlice t l c=>match P.underlying t with
    |some (.slice e)=>match ej P e,jy P e,P.info? e with
      |some (_+1),some z,some i=>if i.bytes<=32768 then do pure (.pz z (<-cO P l) (<-cO P c))else none
      |_,_,_=>none
    |_=>none
  | .call c=>np P c
  | .makeChan t n=>match P.underlying t with
    |some (.chan _ e)=>match P.info? e with
      |some i=>if i.bytes<=32768 then(cO P n).map gD.KR else none
      |none=>none
    |_=>none
  | .send x y=>do pure (.snd (<-cO P x) (<-cO P y))
  | .recv t x false=>match P.underlying t with
    |some (.chan _ e)=>match (P.info? e).bind (·.zero)with
      |some _=>(cO P x).map gD.RS
      |none=>none
    |_=>none
  | .makeMap t none=>match sC P t with
    |some (m,_)=>some (.mq (.new m) [])
    |none=>none
  | .lookup t x k ok=>match sC P t,cO P x,cO P k with
    |some (m,z),some x,some k=>some (.mq (.look m ok z) [x,k])
    |_,_,_=>none
  | .mapUpdate t x k v| .insert t x k v=>match sC P t,cO P x,cO P k,cO P v with
    |some (m,_),some x,some k,some v=>some (.mw (.set m) [x,k,v])
    |_,_,_,_=>none
  | .makeInterface _ _=>some .bad
  | .panic _=>some .bad
  |_=>none
inductive W8 where
  |pure|look|make|write
  deriving DecidableEq,Repr
def gD.cls:gD->W8
  | .new _| .box _| .oh .. | .pz .. | .mq (.new _) _| .KR _=>.make
  | .F0 _| .load .. | .lq .. | .slice .. | .call .. | .tC .. | .mq .. | .KJ _=>.look
  | .store .. | .append .. | .copy .. | .clear .. | .mw .. | .snd .. | .RS _=>.write
  |_=>.pure
def clash:W8->W8->Bool
  | .pure,_|_,.pure=>false
  | .write,_|_,.write=>true
  |_,_=>false
def jd (ops:Array Oper):Array Nat:=Region.before ops
def qp:gD->Bool:=fun o=>o.cls==.make||o.cls==.write
def gD.lJ:gD->Bool
  | .call .. | .tC .. =>true
  |_=>false
def DU (ops:Array Oper) (o:Oper):Option (Option (Nat×Bool)):=
  match o.guard with
  |none=>some none
  |some (i,b)=>match (ops[i]?).bind (·.dst)with
    |some t=>some (some (t,b))
    |none=>none
def ko (P:Program) (ops:Array Oper) (nt site0:Nat) (draw mk:Bool) (bs:Array Nat) (hidden:List (Nat×Bool)) (j:Nat) (o:Oper):Option cJ:=do
  let v <-qC P o.op
  let g <-DU ops o
  if (o.dst.all fun d=>decide (d<nt))then
    pure {dst:=o.dst,op:=v,guard:=g,site:=site0+j,hid:=if draw then(hidden.filter fun(i,m)=>m&& !(bs.getD j 0).testBit i&&(i !=j||mk&&v.lJ)).map fun(i,_)=>site0+i else[]}
  else none
def allM {α:Type} (f:Nat->Oper->Option α):List Oper->Nat->Option (List α)
  |[],_=>some []
  |o::r,j=>do pure ((<-f j o)::(<-allM f r (j+1)))
def gL:O->List Nat
  | .t n=>[n]
  |_=>[]
def wZ:Option O->List Nat
  |some x=>gL x
  |none=>[]
def gD.gI:gD->List Nat
  | .clear _ x| .gG x| .box x| .load _ _ x| .IA x| .Tu _ _ x| .Wd _ x| .not x| .neg x| .conv _ x| .FL x| .lk _ x| .field _ _ _ x| .extract _ x| .len x| .N2 x| .KR x| .KJ x| .RS x=>gL x
  | .pick c a b=>gL c++gL a++gL b
  | .new _| .F0 _| .bad=>[]
  | .build _ ps=>ps.flatMap fun(_,_,x)=>gL x
  | .oh _ _ ps=>ps.flatMap gL
  | .store _ a x| .snd a x=>gL a++gL x
  | .bin _ _ x y| .sh _ x y| .M7 _ x y| .We _ _ x y| .Wc _ _ x y| .lq _ x y| .NP _ _ x y| .NR x y| .ew _ _ _ x y| .append _ x y| .copy _ x y| .pz _ x y=>gL x++gL y
  | .slice _ x lo hi| .Bg x lo hi=>gL x++wZ lo++wZ hi
  | .N5 _ l| .N6 _ l| .call _ l| .mq _ l| .mw _ l=>l.flatMap gL
  | .tC x l=>gL x++l.flatMap gL
def cJ.gI (v:cJ):List Nat:=v.op.gI++(match v.guard with|some (t,_)=>[t]|none=>[])
def tk (x y:cJ):Bool:=
  (match x.dst with
   |some d=> !y.gI.contains d&&y.dst !=some d
   |none=>true)&&
  (match y.dst with
   |some d=> !x.gI.contains d
   |none=>true)
def cJ.makes (v:cJ):Bool:=qp v.op||v.op.lJ&&v.hid.contains v.site
def FX (x y:cJ):Bool:=
  tk x y&& !clash x.op.cls y.op.cls&&(!x.makes||y.hid.contains x.site)&&(!y.makes||x.hid.contains y.site)&&x.site !=y.site
def FN (ops:Array Oper):Bool:=ops.toList.zipIdx.all fun(o,j)=>o.after.all fun e=> !Region.binds .any e||decide (e.on<j)
def ox (ops:Array Oper) (vl:List cJ) (bs:Array Nat):Bool:=
  FN ops&&vl.zipIdx.all fun(y,j)=>vl.zipIdx.all fun(x,i)=> !(decide (i<j))||(bs.getD j 0).testBit i||FX x y
def qQ (P:Program) (nt site0:Nat) (ops:Array Oper) (draw mk:Bool):Option (List cJ):=
  let bs:=if draw then jd ops else #[]
  let hidden:=if draw then ops.toList.zipIdx.map fun(o,i)=>(i,((qC P o.op).map fun v=>qp v||mk&&v.lJ).getD false)else[]
  match allM (ko P ops nt site0 draw mk bs hidden) ops.toList 0 with
  |some vl=>if !draw||ox ops vl bs then some vl else none
  |none=>none
def kK (v:cJ):Bool:= !v.op.lJ&&v.op.cls !=.write
def yT (x y:cJ):Bool:=tk x y&&x.op.cls==.pure||FX x y&&kK x&&kK y
def qf (ops:Array Oper) (vl:List cJ) (bs:Array Nat) (listed:Array Bool) (i:Nat):Bool:=
  match vl[i]? with
  |some x=>(List.range ops.size).all fun j=>listed.getD j false||j==i||(bs.getD j 0).testBit i||(match vl[j]? with|some y=>yT x y|none=>false)
  |none=>false
def PK (vl:List cJ) (x:cJ):Option (Nat×Nat×O):=
  match x.op,x.guard with
  | .append _ (.t t) y,none=>match vl.find? fun v=>v.dst==some t&&v.op.cls==.make with
    |some v=>some (t,v.site,y)
    |none=>none
  |_,_=>none
def FW (s:Nat) (x y:cJ):Bool:=tk x y&&kK y&&y.hid.contains s&&y.hid.contains x.site&&y.site !=s&&y.site !=x.site
def oD (ops:Array Oper) (vl:List cJ) (bs:Array Nat) (listed:Array Bool) (i s:Nat):Bool:=
  match vl[i]? with
  |some x=>(List.range ops.size).all fun j=>listed.getD j false||j==i||(bs.getD j 0).testBit i||(match vl[j]? with|some y=>FW s x y|none=>false)
  |none=>false
def RD (ops:Array Oper) (vl:List cJ) (bs:Array Nat) (listed:Array Bool) (i:Nat):Option (Nat×Nat×Nat×O×cJ):=
  match vl[i]? with
  |some x=>match PK vl x with
    |some (t,s,y)=>if oD ops vl bs listed i s then some (i,t,s,y,x)else none
    |none=>none
  |none=>none
def BL:List VC->Option VC
  |[]=>none
  |[c]=>some c
  |c::r=>(BL r).map (VC.both c)
def ue (ops:Array Oper) (vl:List cJ) (bs:Array Nat):Nat->Array Bool->Option VC
  |0,listed=>
    match Region.ready .any ops listed with
    |[]=>some (.jo false [])
    |_::_=>none
  |n+1,listed=>
    match Region.ready .any ops listed with
    |[]=>some (.jo false [])
    |r::rs=>let rdy:=r::rs
      match rdy.find? (qf ops vl bs listed)with
      |some i=>match vl[i]? with
        |some vo=>(ue ops vl bs n (listed.setIfInBounds i true)).map (VC.one vo)
        |none=>none
      |none=>match rdy.findSome? (RD ops vl bs listed)with
        |some (i,t,s,y,vo)=>(ue ops vl bs n (listed.setIfInBounds i true)).map fun c=>VC.loc t s y (.one vo c)
        |none=>match rdy.mapM fun i=>(vl[i]?).bind fun vo=>(ue ops vl bs n (listed.setIfInBounds i true)).map (VC.one vo)with
          |some l=>BL l
          |none=>none
def PI:Op->Bool
  | .send .. | .recv .. =>true
  |_=>false
def Tj (P:Program) (nt site0:Nat) (ops:Array Oper) (draw:Bool) (mode:Nat):Option VC:=
  if draw&&mode==2 then
    match allM (ko P ops nt site0 true false (jd ops) (ops.toList.zipIdx.map fun(o,i)=>(i,((qC P o.op).map qp).getD false))) ops.toList 0 with
    |some vl=>ue ops vl (jd ops) ops.size (Array.replicate ops.size false)
    |none=>none
  else if !draw&&ops.any (fun o=>PI o.op)then(qQ P nt site0 ops false false).map VC.Qs
  else(qQ P nt site0 ops draw (mode==1)).map (VC.jo draw)
def sR (md:List (Nat×Nat)) (id:Nat):Nat:=
  match md with
  |[]=>0
  |(i,m)::r=>if i=id then m else sR r id
def iC (P:Program) (md:List (Nat×Nat)) (nt fid:Nat):Code->Option VC
  | .skip=>some .skip
  | .region id ops draw=>Tj P nt ((fid*1000+id)*1000) ops draw (sR md id)
  | .seq a b=>do pure (.seq (<-iC P md nt fid a) (<-iC P md nt fid b))
  | .cond c x y=>do pure (.cond (<-cO P c) (<-iC P md nt fid x) (<-iC P md nt fid y))
  | .block id c=>(iC P md nt fid c).map (VC.block id)
  | .loop c=>(iC P md nt fid c).map VC.loop
  | .exit id=>some (.exit id)
  | .ret=>some .ret
  | .label _=>some .skip
  | .scope c=>iC P md nt fid c
  |_=>none
def DV (P:Program) (r:ResultVar):Option nZ:=
  match r with
  | .tmp t=>some (.tmp t)
  | .cell a t=>do pure (.cell (<-lY P t) (<-ej P t) a)
def Ah (P:Program) (f:Nat) (md:List (Nat×Nat)):Option Jg:=
  match P.funcs[f]? with
  |some fn=>match fn.body with
    |some c=>do
      let b <-iC P md fn.ntmps f c
      let r <-fn.results.toList.mapM (DV P)
      if fn.params.size+fn.nfree<=fn.ntmps then pure {ntmps:=fn.ntmps,zz:=fn.params.size+fn.nfree,body:=b,res:=r}else none
    |none=>none
  |none=>none
def BN (P:Program) (f:Nat):Option Jg:=Ah P f []
theorem ab {P:Prop} (h:P:=by omega):P:=h
theorem cD {P:Prop} (h:P:=by(try dsimp only);omega):P:=h
structure Row where
 w:Bool
 sz:Nat
 rows:List (List AV)
abbrev Rows:=Id->Option Row
structure au where
 get:Rows
 next:Nat
abbrev Env:=Nat->AV
def upd (env:Env):Option Nat->AV->Env
 |some d,v=>fun t=>if t=d then v else env t
 |none,_=>env
inductive Ex where
 |normal
 |exit (id:Nat)
 |ret
 deriving DecidableEq
def cZ (env:Env):O->AV
 | .t n=>env n
 | .k c=>c.av
 | .ka cs=>.agg (cs.map K.av)
 | .f n=>.fn n []
def bz (g:Rows) (id:Id) (r:Row):Rows:=fun i=>if i=id then some r else g i
def bx (g:Rows) (id:Id):Rows:=fun i=>if i=id then none else g i
def ev:List Nat->Nat->Rows->Rows
 |[],_,g=>g
 |h::t,n,g=>fun id=>if (h::t).contains id.site=true/\id.cV=n then none else g id
def ro (g:Rows):Rows:=fun id=>(g id).map fun r=>{r with w:=false}
def part (agg:Bool) (n:Nat) (cs:List AV):Option AV:=
 if agg then(if n<=cs.length then some (.agg (cs.take n))else none)else cs.head?
def rowAt (g:Rows) (id:Id) (i:Nat):Option (List AV):=(g id).bind (·.rows[i]?)
def ld (g:Rows) (agg:Bool) (n:Nat):AV->Option AV
 | .ptr id i off=>(rowAt g id i).bind fun cs=>part agg n (cs.drop off)
 | .fe cs=>part agg n cs
 |_=>none
def cW:BinOp->IntKind->Int->Int->Option AV
 | .add,k,a,b=>some (.int k (k.wrap (a+b)))
 | .sub,k,a,b=>some (.int k (k.wrap (a-b)))
 | .mul,k,a,b=>some (.int k (k.wrap (a*b)))
 | .quo,k,a,b=>if b=0 then none else some (.int k (k.wrap (a.tdiv b)))
 | .rem,k,a,b=>if b=0 then none else some (.int k (a.tmod b))
 | .lss,_,a,b=>some (.bool (decide (a<b)))
 | .leq,_,a,b=>some (.bool (decide (a<=b)))
 | .gtr,_,a,b=>some (.bool (decide (b<a)))
 | .geq,_,a,b=>some (.bool (decide (b<=a)))
 | .and,k,a,b=>some (.int k (k.wrap (BitVec.ofInt k.bits a&&& BitVec.ofInt k.bits b).toNat))
 | .or,k,a,b=>some (.int k (k.wrap (BitVec.ofInt k.bits a|||BitVec.ofInt k.bits b).toNat))
 | .xor,k,a,b=>some (.int k (k.wrap (BitVec.ofInt k.bits a ^^^ BitVec.ofInt k.bits b).toNat))
 |_,_,_,_=>none
def dj (op:BinOp):AV->AV->Option AV
 | .int k a,.int k' b=>if k=k' then cW op k a b else none
 |_,_=>none
def eO (left:Bool):AV->AV->Option AV
 | .int k a,.int _ b=>if b<0 then none else some (.int k (if left then k.wrap (a*2 ^ min b.toNat k.bits)else a.fdiv (2 ^ min b.toNat k.bits)))
 |_,_=>none
def dw:BinOp->ByteArray->ByteArray->Option AV
 | .add,a,b=>if a.size+b.size<=9223372036854775807 then some (.str (a++b))else none
 | .lss,a,b=>some (.bool (Op.bytesLess a.toList b.toList))
 | .leq,a,b=>some (.bool (Op.bytesLess a.toList b.toList||(a.toList==b.toList)))
 | .gtr,a,b=>some (.bool !(Op.bytesLess a.toList b.toList||(a.toList==b.toList)))
 | .geq,a,b=>some (.bool !(Op.bytesLess a.toList b.toList))
 |_,_,_=>none
def cC (op:BinOp):AV->AV->Option AV
 | .str a,.str b=>dw op a b
 |_,_=>none
def er:TS->AV->AV->Option Bool
 | .tI,.int k a,.int k' b=>if k=k' then some (decide (a=b))else none
 | .tB,.bool a,.bool b=>some (a==b)
 | .tS,.str a,.str b=>some (decide (a=b))
 |_,_,_=>none
def ea:List TS->List AV->List AV->Option Bool
 |[],[],[]=>some true
 |t::ts,a::r,b::s=>match er t a b,ea ts r s with
  |some x,some y=>some (x&&y)
  |_,_=>none
 |_,_,_=>none
def cR (neg b:Bool):Bool:=if neg then !b else b
def cw:AV->Option Bool
 | .bP=>some true
 | .own _ _ _=>some false
 | .sl (_::_)=>some false
 |_=>none
def cu:AV->Option Bool
 | .iS=>some true
 | .fn _ _=>some false
 |_=>none
def L4:AV->Option Bool
 | .gQ=>some true
 | .ptr .. | .fe _=>some false
 |_=>none
def dq (NW:Bool) (x:AV):Option Bool:=if NW then cu x else cw x
def da (len:Nat):Option AV->Option Nat
 |none=>some len
 |some (.int _ n)=>if 0<=n/\n<=len then some n.toNat else none
 |_=>none
def db (h:Nat):Option AV->Option Nat
 |none=>some 0
 |some (.int _ n)=>if 0<=n/\n<=h then some n.toNat else none
 |_=>none
def bp (g:Rows) (sz:Nat) (x:AV) (lo hi:Option AV):Option AV:=
 match x with
 | .bP=>(da 0 hi).bind fun h=>(db h lo).map fun _=>.bP
 | .sl rows=>(da rows.length hi).bind fun h=>(db h lo).bind fun l=>if ∀cs∈rows,cs.length=sz then some (.sl ((rows.drop l).take (h-l)))else none
 | .own id off len=>(g id).bind fun r=>(da len hi).bind fun h=>(db h lo).bind fun l=>if r.sz=sz then some (.own id (off+l) (h-l))else none
 |_=>none
def aI (x:AV) (lo hi:Option AV):Option AV:=
 match x with
 | .str s=>(da s.size hi).bind fun h=>(db h lo).map fun l=>.str (s.extract l h)
 |_=>none
def Fx (off:Nat):AV->Option AV
 | .ptr id i o=>some (.ptr id i (o+off))
 | .fe cs=>some (.fe (cs.drop off))
 |_=>none
def bj (g:Rows) (sz:Nat):AV->AV->Option AV
 | .sl rows,.int _ n=>if 0<=n then(rows[n.toNat]?).bind fun cs=>if cs.length=sz then some (.fe cs)else none else none
 | .own id off len,.int _ n=>if 0<=n/\n<len then(g id).bind fun r=>if r.sz=sz then some (.ptr id (off+n.toNat) 0)else none else none
 |_,_=>none
def bZ (len sz:Nat):AV->AV->Option AV
 | .ptr id r off,.int _ n=>if 0<=n/\n<len then some (.ptr id r (off+n.toNat*sz))else none
 | .fe cs,.int _ n=>if 0<=n/\n<len then some (.fe (cs.drop (n.toNat*sz)))else none
 |_,_=>none
def ck:AV->AV->Option AV
 | .str s,.int _ n=>if 0<=n then(s[n.toNat]?).map fun b=>.int .u8 b.toNat else none
 |_,_=>none
def cj (agg:Bool) (len n:Nat):AV->AV->Option AV
 | .agg cs,.int _ i=>if 0<=i/\i<len then part agg n (cs.drop (i.toNat*n))else none
 |_,_=>none
def dn:AV->Option Nat
 | .bP=>some 0
 | .sl rows=>some rows.length
 | .own _ _ n=>some n
 |_=>none
def dr:AV->Option AV
 | .bool b=>some (.bool !b)
 |_=>none
def dp:AV->Option AV
 | .int k n=>some (.int k (k.wrap (0-n)))
 |_=>none
def bW (k:IntKind):AV->Option AV
 | .int _ n=>some (.int k (k.wrap n))
 |_=>none
def br:AV->Option AV
 | .str s=>some (.str s)
 |_=>none
def cz:AV->AV->AV->Option AV
 | .bool c,a,b=>some (if c then a else b)
 |_,_,_=>none
def dm:AV->Option AV
 | .ptr id i o=>some (.ptr id i o)
 | .fe cs=>some (.fe cs)
 |_=>none
def bh (agg:Bool) (off n:Nat):AV->Option AV
 | .agg cs=>if off+n<=cs.length then part agg n (cs.drop off)else none
 |_=>none
def ar (i:Nat):AV->Option AV
 | .fN vs=>vs[i]?
 |_=>none
def cq:AV->Option AV
 | .str s=>some (.int .i64 s.size)
 |_=>none
def rowOf (sz:Nat) (v:AV):Option (List AV):=if v.cells.length=sz/\v.cells.all AV.cell then some v.cells else none
def bR (v:AV):Option (List AV):=if v.cells.all AV.cell then some v.cells else none
def rowsOf (sz:Nat):List AV->Option (List (List AV))
 |[]=>some []
 |v::r=>(rowOf sz v).bind fun c=>(rowsOf sz r).map fun cs=>c::cs
def bH:List AV->List (Nat×Nat×AV)->Option (List AV)
 |cs,[]=>some cs
 |cs,(off,n,v)::r=>if v.cells.length=n/\off+n<=cs.length/\v.cells.all AV.cell then bH (cs.take off++v.cells++cs.drop (off+n)) r else none
def cX:Nat:=16777216
def eM (zero:List K):AV->AV->Option (Nat×Row)
 | .int _ l,.int _ c=>if 0<=l/\l<=c/\c<=cX then some (l.toNat,⟨true,zero.length,List.replicate l.toNat (zero.map K.av)⟩)else none
 |_,_=>none
def EN:Nat:=1000000000
def MK.ks (m:MK):Nat:=m.ts.length
def MK.j4 (m:MK):Nat:=EN+m.ks
def AV.isAgg:AV->Bool
 | .agg _=>true
 |_=>false
def fK (m:MK) (key:List AV):List (List AV)->Nat->Option (Option Nat)
 |[],_=>some none
 |r::l,i=>match ea m.ts key (r.take m.ks)with
  |some true=>some (some i)
  |some false=>fK m key l (i+1)
  |none=>none
def de (g:Rows) (m:MK):AV->Option (Id×Row)
 | .map id m'=>if m'=m then(g id).map fun r=>(id,r)else none
 |_=>none
def fq (m:MK) (k:AV) (rows:List (List AV)):Option (Option Nat):=if k.isAgg=m.ka/\k.cells.length=m.ks/\k.cells.all AV.cell then fK m k.cells rows 0 else none
def di (m:MK) (z:K) (rows:List (List AV)):Option Nat->Option AV
 |some i=>(rows[i]?).bind fun cs=>cs[m.ks]?
 |none=>some z.av
def aW (q:MQ) (vs:List AV) (g:Rows) (id:Id):Option (AV×Option Row):=
 match q,vs with
 | .new m,[]=>some (.map id m,some ⟨true,m.j4,[]⟩)
 | .look m ok z,[x,k]=>(de g m x).bind fun p=>(fq m k p.2.rows).bind fun fi=>(di m z p.2.rows fi).map fun v=>(if ok then .fN [v,.bool fi.isSome]else v,none)
 | .len m,[x]=>(de g m x).map fun p=>(.int .i64 p.2.rows.length,none)
 |_,_=>none
def qU:Nat:=2000000000
def cr:AV->Option Nat
 | .int _ n=>if 0<=n/\n<=1048576 then some n.toNat else none
 |_=>none
def cm (g:Rows):AV->Option AV
 | .qR id=>(g id).map fun r=>.int .i64 r.rows.length
 |_=>none
def du (g:Rows):AV->AV->Option Rows
 | .qR id,v=>(g id).bind fun r=>if r.w/\qU+r.rows.length<r.sz/\v.cell then some (bz g id {r with rows:=r.rows++[[v]]})else none
 |_,_=>none
def dt (g:Rows):AV->Option (AV×Rows)
 | .qR id=>(g id).bind fun r=>match r.rows with
  |[v]::rest=>if r.w then some (v,bz g id {r with rows:=rest})else none
  |_=>none
 |_=>none
def cY (rows:List (List AV)) (e:List AV):Option Nat->List (List AV)
 |some i=>rows.set i e
 |none=>rows++[e]
def c6 (rows:List (List AV)):Option Nat->List (List AV)
 |some i=>rows.eraseIdx i
 |none=>rows
def bd (q:MW) (vs:List AV) (g:Rows):Option Rows:=
 match q,vs with
 | .set m,[x,k,v]=>(de g m x).bind fun p=>(fq m k p.2.rows).bind fun fi=>if p.2.w/\v.cell/\v.isAgg=false then some (bz g p.1 {p.2 with rows:=cY p.2.rows (k.cells++[v]) fi})else none
 | .del m,[x,k]=>(de g m x).bind fun p=>(fq m k p.2.rows).bind fun fi=>if p.2.w then some (bz g p.1 {p.2 with rows:=c6 p.2.rows fi})else none
 |_,_=>none
def oG (k:Nat):Id:=⟨999000000+k,0⟩
def eL (g:Rows) (k:Nat):Option AV:=(rowAt g (oG k) 0).bind fun cs=>match cs with
 |[.err j t s]=>if j=k then some (.err k t s)else none
 |_=>none
def dS (o:gD) (ρ:O->AV) (g:Rows) (id:Id):Option (AV×Option Row):=
 match o with
 | .gG x=>some (ρ x,none)
 | .pick c a b=>(cz (ρ c) (ρ a) (ρ b)).map (·,none)
 | .new zero=>some (.ptr id 0 0,some ⟨true,zero.length,[zero.map K.av]⟩)
 | .box x=>(bR (ρ x)).map fun cs=>(.ptr id 0 0,some ⟨true,cs.length,[cs]⟩)
 | .build zero parts=>(bH (zero.map K.av) (parts.map fun(o,n,x)=>(o,n,ρ x))).map fun cs=>(.agg cs,none)
 | .oh sz len parts=>(rowsOf sz (parts.map ρ)).map fun rs=>(.own id 0 len,some ⟨true,sz,rs⟩)
 | .load agg n a=>(ld g agg n (ρ a)).map (·,none)
 | .IA x=>(dm (ρ x)).map (·,none)
 | .bin op _ x y=>(dj op (ρ x) (ρ y)).map (·,none)
 | .sh left x y=>(eO left (ρ x) (ρ y)).map (·,none)
 | .M7 op x y=>(cC op (ρ x) (ρ y)).map (·,none)
 | .We neg t x y=>(er t (ρ x) (ρ y)).map fun b=>(.bool (cR neg b),none)
 | .Wc neg ts x y=>match ρ x,ρ y with
  | .agg xs,.agg ys=>(ea ts xs ys).map fun b=>(.bool (cR neg b),none)
  |_,_=>none
 | .Tu neg NW x=>(dq NW (ρ x)).map fun b=>(.bool (cR neg b),none)
 | .Wd neg x=>(L4 (ρ x)).map fun b=>(.bool (cR neg b),none)
 | .not x=>(dr (ρ x)).map (·,none)
 | .neg x=>(dp (ρ x)).map (·,none)
 | .conv k x=>(bW k (ρ x)).map (·,none)
 | .FL x=>(br (ρ x)).map (·,none)
 | .slice sz x lo hi=>(bp g sz (ρ x) (lo.map ρ) (hi.map ρ)).map (·,none)
 | .Bg x lo hi=>(aI (ρ x) (lo.map ρ) (hi.map ρ)).map (·,none)
 | .lk off x=>(Fx off (ρ x)).map (·,none)
 | .field agg off n x=>(bh agg off n (ρ x)).map (·,none)
 | .lq sz x i=>(bj g sz (ρ x) (ρ i)).map (·,none)
 | .NP len sz x i=>(bZ len sz (ρ x) (ρ i)).map (·,none)
 | .NR x i=>(ck (ρ x) (ρ i)).map (·,none)
 | .ew agg len n x i=>(cj agg len n (ρ x) (ρ i)).map (·,none)
 | .extract i x=>(ar i (ρ x)).map (·,none)
 | .len x=>(dn (ρ x)).map fun(n:Nat)=>(AV.int .i64 (n:Int),none)
 | .N2 x=>(cq (ρ x)).map (·,none)
 | .N5 f dG=>some (.fn f (dG.map ρ),none)
 | .N6 f first=>some (.tX f (first.map ρ),none)
 | .pz zero l c=>(eM zero (ρ l) (ρ c)).map fun(n,r)=>(.own id 0 n,some r)
 | .mq q xs=>aW q (xs.map ρ) g id
 | .KR x=>(cr (ρ x)).map fun n=>(.qR id,some ⟨true,qU+n,[]⟩)
 | .KJ x=>(cm g (ρ x)).map (·,none)
 | .F0 k=>(eL g k).map (·,none)
 |_=>none
def aT (g:Rows):AV->Option (List (List AV))
 | .bP=>some []
 | .sl rows=>some rows
 | .own id off len=>(g id).bind fun r=>if off+len<=r.rows.length then some ((r.rows.drop off).take len)else none
 |_=>none
def bL (cs:List AV) (off:Nat) (xs:List AV):List AV:=cs.take off++xs++cs.drop (off+xs.length)
def bq (g:Rows) (n:Nat) (v:AV):AV->Option Rows
 | .ptr id i off=>(g id).bind fun r=>(r.rows[i]?).bind fun cs=>
  if r.w/\v.cells.length=n/\v.cells.all AV.cell/\off+n<=cs.length then some (bz g id {r with rows:=r.rows.set i (bL cs off v.cells)})else none
 |_=>none
def aH (g:Rows) (id:Id) (sz:Nat) (x:AV) (ys:List (List AV)):Option (AV×Rows):=
 match x with
 | .bP=>match ys with
  |[]=>some (.bP,g)
  |y::r=>if (y::r).length<=cX/\(y::r).all (fun c=>c.length==sz&&c.all AV.cell)then some (.own id 0 (y::r).length,bz g id ⟨true,sz,y::r⟩)else none
 | .own i 0 len=>(g i).bind fun r=>
  if r.w/\r.sz=sz/\len=r.rows.length/\len+ys.length<=cX/\ys.all (fun c=>c.length==sz&&c.all AV.cell)then some (.own id 0 (len+ys.length),bz (bx g i) id ⟨true,sz,r.rows++ys⟩)else none
 |_=>none
def GG (g:Rows) (sz:Nat) (x:AV) (ys:List (List AV)):Option (AV×Rows):=
 match x with
 | .own i off len=>(g i).bind fun r=>
  if r.w/\r.sz=sz/\off+len<=r.rows.length/\ys.all (fun c=>c.length==sz&&c.all AV.cell)then
   some (.int .i64 (min ys.length len:Nat),bz g i {r with rows:=r.rows.take off++ys.take (min ys.length len)++r.rows.drop (off+min ys.length len)})else none
 |_=>none
def bf (g:Rows) (zero:List K) (x:AV):Option Rows:=
 match x with
 | .bP=>some g
 | .own i off len=>(g i).bind fun r=>
  if r.w/\r.sz=zero.length/\off+len<=r.rows.length then
   some (bz g i {r with rows:=r.rows.take off++List.replicate len (zero.map K.av)++r.rows.drop (off+len)})else none
 |_=>none
def ez (o:gD) (ρ:O->AV) (g:Rows) (id:Id):Option (AV×Rows):=
 match o with
 | .store n a x=>(bq g n (ρ x) (ρ a)).map fun g'=>(.undef,g')
 | .append sz x y=>(aT g (ρ y)).bind fun ys=>aH g id sz (ρ x) ys
 | .copy sz x y=>(aT g (ρ y)).bind fun ys=>GG g sz (ρ x) ys
 | .clear zero x=>(bf g zero (ρ x)).map fun g'=>(.undef,g')
 | .mw q xs=>(bd q (xs.map ρ) g).map fun g'=>(.undef,g')
 |_=>none
def vD:AV->List AV->Option (Nat×List AV)
 | .fn f dG,l=>some (f,l++dG)
 | .tX f first,l=>some (f,first++l)
 |_,_=>none
abbrev fW:=Nat->List AV->au->(AV->au->Prop)->Prop
mutual
def fz (g:Rows):Nat->AV->Option AV
 |0,_=>none
 |n+1,a=>match a with
  | .own id off len=>match g id with
   |some r=>if r.w then(if off+len<=r.rows.length then(fm g n ((r.rows.drop off).take len)).map AV.sl else none)else none
   |none=>none
  | .ptr id i off=>match g id with
   |some r=>if r.w then(match r.rows[i]? with
    |some cs=>(ek g n (cs.drop off)).map AV.fe
    |none=>none)else none
   |none=>none
  | .agg cs=>(ek g n cs).map AV.agg
  | .fN vs=>(ek g n vs).map AV.fN
  | .fn f dG=>if dG.all AV.cell then(ek g n dG).map (AV.fn f)else none
  | .map _ _| .tX _ _| .qR _=>none
  |v=>some v
 termination_by n _=>(n,0)
def ek (g:Rows):Nat->List AV->Option (List AV)
 |n,[]=>some []
 |n,a::r=>match fz g n a with
  |some b=>(ek g n r).map (b::·)
  |none=>none
 termination_by n l=>(n,l.length+1)
def fm (g:Rows):Nat->List (List AV)->Option (List (List AV))
 |n,[]=>some []
 |n,c::r=>match ek g n c with
  |some b=>(fm g n r).map (b::·)
  |none=>none
 termination_by n l=>(n,(l.map (fun c=>c.length+2)).sum+1)
 decreasing_by all_goals simp_wf;try omega
end
mutual
def gx (g:Rows):Nat->AV->Option AV
 |0,_=>none
 |n+1,a=>match a with
  | .own id off len=>match g id with
   |some r=>if r.w then(if off+len<=r.rows.length then(fS g n ((r.rows.drop off).take len)).map AV.sl else none)else none
   |none=>none
  | .ptr id i off=>match g id with
   |some r=>if r.w then(match r.rows[i]? with
    |some cs=>(eU g n (cs.drop off)).map AV.fe
    |none=>none)else none
   |none=>none
  | .agg cs=>(eU g n cs).map AV.agg
  | .fN vs=>(eU g n vs).map AV.fN
  | .int k m=>some (.int k m)
  | .bool b=>some (.bool b)
  | .str s=>some (.str s)
  | .bP=>some .bP
  | .gQ=>some .gQ
  | .iS=>some .iS
  | .jf=>some .jf
  | .iF=>some .iF
  |_=>none
 termination_by n _=>(n,0)
def eU (g:Rows):Nat->List AV->Option (List AV)
 |n,[]=>some []
 |n,a::r=>match gx g n a with
  |some b=>(eU g n r).map (b::·)
  |none=>none
 termination_by n l=>(n,l.length+1)
def fS (g:Rows):Nat->List (List AV)->Option (List (List AV))
 |n,[]=>some []
 |n,c::r=>match eU g n c with
  |some b=>(fS g n r).map (b::·)
  |none=>none
 termination_by n l=>(n,(l.map (fun c=>c.length+2)).sum+1)
 decreasing_by all_goals simp_wf;try omega
end
def dX (g:Rows):Rows:=fun id=>(g id).map fun r=>{r with w:=true}
def PC (X:fW) (f:Nat) (args:List AV) (σ:au) (K:AV->Prop):Prop:=
 X f args ⟨ro σ.get,σ.next⟩ fun r σ'=>∃r',fz σ'.get 6 r=some r'/\K r'
def PCv (X:fW) (f:Nat) (args:List AV) (σ:au) (K:AV->Prop):Prop:=
 ∃args',ek (dX σ.get) 6 args=some args'/\X f args' ⟨fun _=>none,σ.next⟩ fun r σ'=>∃r',gx σ'.get 6 r=some r'/\K r'
def eB (X:fW) (f:Nat) (args:List AV) (σ:au) (K:AV->Prop):Prop:=PC X f args σ K∨PCv X f args σ K
def ax (g:Option (Nat×Bool)) (env:Env):Bool:=
 match g with
 |none=>true
 |some (t,b)=>match env t with
  | .bool c=>c==b
  |_=>false
def AV.plain:AV->Bool
 | .int .. | .bool _| .str _| .bP| .gQ| .iS| .jf| .iF=>true
 |_=>false
def CM (X:fW) (f:Nat) (args:List AV) (σ:au) (sz:Nat) (rows:List (List AV)):Prop:=
 (∀c∈rows,∀a∈c,a.plain=true)/\∃args',ek (dX σ.get) 6 args=some args'/\X f args' ⟨fun _=>none,σ.next⟩ fun r σ'=>∃id,r=.own id 0 rows.length/\σ'.get id=some ⟨true,sz,rows⟩
def bJ (X:fW) (draw:Bool) (hid:List Nat) (site:Nat) (f:Nat) (args:List AV) (σ:au) (next:AV->au->Prop):Prop:=
 (∃r,eB X f args ⟨ev hid σ.next σ.get,σ.next+1⟩ (fun r'=>r'=r)/\next r σ)∨
 (draw=false/\X f args ⟨σ.get,σ.next+1⟩ next)∨
 (hid.contains site=true/\∃sz rows,CM X f args ⟨ev hid σ.next σ.get,σ.next+1⟩ sz rows/\next (.own ⟨site,σ.next⟩ 0 rows.length) ⟨bz σ.get ⟨site,σ.next⟩ ⟨true,sz,rows⟩,σ.next⟩)
def eo (X:fW) (draw:Bool) (o:cJ) (env:Env) (σ:au) (next:AV->au->Prop):Prop:=
 match o.op with
 | .call f args=>bJ X draw o.hid o.site f (args.map (cZ env)) σ next
 | .tC x args=>match cZ env x with
  | .fn f dG=>bJ X draw o.hid o.site f (args.map (cZ env)++dG) σ next
  | .tX f first=>bJ X draw o.hid o.site f (first++args.map (cZ env)) σ next
  |_=>False
 | .store .. | .append .. | .copy .. | .clear .. | .mw .. =>match ez o.op (cZ env) σ.get ⟨o.site,σ.next⟩with
  |some (v,g)=>next v ⟨g,σ.next⟩
  |none=>False
 |_=>match dS o.op (cZ env) (ev o.hid σ.next σ.get) ⟨o.site,σ.next⟩with
  |some (v,some r)=>next v ⟨bz σ.get ⟨o.site,σ.next⟩ r,σ.next⟩
  |some (v,none)=>next v σ
  |none=>False
def wpOps (X:fW) (draw:Bool):List cJ->(Env->au->Prop)->Env->au->Prop
 |[],K,env,σ=>K env ⟨σ.get,σ.next+1⟩
 |o::r,K,env,σ=>
  if ax o.guard env then eo X draw o env σ fun v σ'=>wpOps X draw r K (upd env o.dst v) σ'
  else wpOps X draw r K (upd env o.dst .undef) σ
def bE:List cJ->(Env->au->Prop)->Env->au->Prop
 |[],K,env,σ=>K env ⟨σ.get,σ.next+1⟩
 |o::r,K,env,σ=>o.guard=none/\match o.op with
  | .snd x y=>match du σ.get (cZ env x) (cZ env y)with
   |some g=>bE r K (upd env o.dst .undef) ⟨g,σ.next⟩
   |none=>False
  | .RS x=>match dt σ.get (cZ env x)with
   |some (v,g)=>bE r K (upd env o.dst v) ⟨g,σ.next⟩
   |none=>False
  |op=>match dS op (cZ env) σ.get ⟨o.site,σ.next⟩with
   |some (v,none)=>bE r K (upd env o.dst v) σ
   |_=>False
def cU (next:Env->au->Prop) (Q:Ex->Env->au->Prop):Ex->Env->au->Prop
 | .normal=>next
 |e=>Q e
def aQ (id:Nat) (Q:Ex->Env->au->Prop):Ex->Env->au->Prop
 | .exit jR=>if jR=id then Q .normal else Q (.exit jR)
 |e=>Q e
def Gi (W:(Ex->Env->au->Prop)->Env->au->Prop) (Q:Ex->Env->au->Prop):Nat->Env->au->Prop
 |0=>fun _ _=>False
 |n+1=>W (cU (Gi W Q n) Q)
def N3 (t s:Nat) (y:O) (env:Env) (n:Nat):Prop:=(∃len,env t=.own ⟨s,n⟩ 0 len)/\∀id o l,cZ env y=.own id o l->id.cV≠n
def dH (X:fW):VC->(Ex->Env->au->Prop)->Env->au->Prop
 | .skip,Q=>Q .normal
 | .jo draw ops,Q=>wpOps X draw ops (Q .normal)
 | .seq a b,Q=>dH X a (cU (dH X b Q) Q)
 | .cond c x y,Q=>fun env σ=>match cZ env c with
  | .bool b=>if b then dH X x Q env σ else dH X y Q env σ
  |_=>False
 | .block id c,Q=>dH X c (aQ id Q)
 | .loop c,Q=>fun env σ=>∃n,Gi (dH X c) Q n env σ
 | .exit id,Q=>Q (.exit id)
 | .ret,Q=>Q .ret
 | .one o c,Q=>fun env σ=>if ax o.guard env then eo X false o env σ fun v σ'=>dH X c Q (upd env o.dst v) σ' else dH X c Q (upd env o.dst .undef) σ
 | .both a b,Q=>fun env σ=>dH X a Q env σ/\dH X b Q env σ
 | .loc t s y c,Q=>fun env σ=>N3 t s y env σ.next/\dH X c Q env σ
 | .Qs ops,Q=>bE ops (Q .normal)
def kX (env:Env) (g:Rows):nZ->Option AV
 | .tmp t=>some (env t)
 | .cell agg n t=>ld g agg n (env t)
def gY (env:Env) (g:Rows):List nZ->Option (List AV)
 |[]=>some []
 |r::l=>(kX env g r).bind fun v=>(gY env g l).map (v::·)
def gp:List AV->AV
 |[v]=>v
 |l=>.fN l
def bD (args:List AV):Env:=fun t=>args.getD t .undef
def lL (res:List nZ) (K:AV->au->Prop):Ex->Env->au->Prop
 | .exit _,_,_=>False
 |_,env,σ=>∃vs,gY env σ.get res=some vs/\K (gp vs) σ
inductive jA (P:Program) (w:World) (D:Nat->Prop):AV->Value->Prop
 |int (k n):jA P w D (.int k n) (.int k n)
 |bool (b):jA P w D (.bool b) (.bool b)
 |str (s):jA P w D (.str s) (.string s)
 |bP:jA P w D .bP (.slice none 0 0)
 |gQ:jA P w D .gQ (.pointer none)
 |iS:jA P w D .iS .nilFunc
 |Bd (a c):c<=maxLen->jA P w D (.sl []) (.slice a 0 c)
 |sl (rows b o n c sz) (vs:Nat->Nat->Value):rows.length=n->n<=c->c<=maxLen->D b->(∀cs∈rows,cs.length=sz)->(∀cs∈rows,∀a∈cs,a.cell=true)->
   (∀i j,i<n->j<sz->w.cell? ⟨b,o+(i*sz+j),none⟩=some (vs i j))->
   (∀i j cs a,rows[i]? =some cs->cs[j]? =some a->jA P w D a (vs i j))->jA P w D (.sl rows) (.slice (some ⟨b,o,none⟩) n c)
 |fe (cs b o) (vs:Nat->Value):D b->(∀a∈cs,a.cell=true)->(∀j,j<cs.length->w.cell? ⟨b,o+j,none⟩=some (vs j))->
   (∀j a,cs[j]? =some a->jA P w D a (vs j))->jA P w D (.fe cs) (.pointer (some ⟨b,o,none⟩))
 |agg (cs) (vs:Array Value) (f:Nat->Value):vs.size=cs.length->(∀a∈cs,a.cell=true)->(∀j,j<cs.length->vs[j]? =some (f j))->(∀j a,cs[j]? =some a->jA P w D a (f j))->jA P w D (.agg cs) (.agg vs)
 |fn (f dG) (vs:Array Value) (g:Nat->Value):fY P f=true->vs.size=dG.length->(∀j,j<dG.length->vs[j]? =some (g j))->(∀j a,dG[j]? =some a->jA P w D a (g j))->jA P w D (.fn f dG) (.func (.func f) #[] vs)
 |jf:jA P w D .jf (.map none)
 |iF:jA P w D .iF .nilIface
 |err (g t s a c ty):D g->w.cell? ⟨g,0,none⟩=some (.iface t (.pointer (some a)))->D a.block->w.heap[a.block]? =some (.cells c ty (0,0))->w.cell? a=some (.string s)->jA P w D (.err g t s) (.iface t (.pointer (some a)))
inductive BK where
 |map (m:MK)
 |chan (cap:Nat)
structure sr where
 b:Nat
 sz:Nat
 C:Nat
 k:Option BK
abbrev Names:=Id->Option sr
inductive dE (P:Program) (w:World) (D:Nat->Prop) (ι:Names):AV->Value->Prop
 |eE (a v):jA P w D a v->dE P w D ι a v
 |own (id off len o cap B):ι id=some B->B.k=none->len<=cap->(cap=0∨o=off*B.sz)->(off+cap)*B.sz<=B.C->cap<=maxLen->dE P w D ι (.own id off len) (.slice (some ⟨B.b,o,none⟩) len cap)
 |ptr (id i off B):ι id=some B->B.k=none->dE P w D ι (.ptr id i off) (.pointer (some ⟨B.b,i*B.sz+off,none⟩))
 |agg (cs) (vs:Array Value) (f:Nat->Value):vs.size=cs.length->(∀a∈cs,a.cell=true)->(∀j,j<cs.length->vs[j]? =some (f j))->(∀j a,cs[j]? =some a->dE P w D ι a (f j))->dE P w D ι (.agg cs) (.agg vs)
 |fN (cs) (vs:Array Value) (f:Nat->Value):vs.size=cs.length->(∀j,j<cs.length->vs[j]? =some (f j))->(∀j a,cs[j]? =some a->dE P w D ι a (f j))->dE P w D ι (.fN cs) (.tuple vs)
 |fn (f dG) (vs:Array Value) (g:Nat->Value):fY P f=true->vs.size=dG.length->(∀j,j<dG.length->vs[j]? =some (g j))->(∀j a,dG[j]? =some a->dE P w D ι a (g j))->dE P w D ι (.fn f dG) (.func (.func f) #[] vs)
 |qR (id c B):ι id=some B->B.k=some (.chan c)->dE P w D ι (.qR id) (.chan (some B.b))
 |map (id m B):ι id=some B->B.k=some (.map m)->dE P w D ι (.map id m) (.map (some B.b))
 |tX (f dG) (vs:Array Value) (g:Nat->Value):fY P f=true->vs.size=dG.length->(∀j,j<dG.length->vs[j]? =some (g j))->(∀j a,dG[j]? =some a->dE P w D ι a (g j))->dE P w D ι (.tX f dG) (.func (.func f) vs #[])
variable {P:Program} {w w':World} {D D':Nat->Prop} {ι ι':Names}
theorem jA.frame (hD:∀b,D b->w'.heap[b]? =w.heap[b]?) (hs:∀b,D b->D' b) {a:AV} {v:Value} (h:jA P w D a v):jA P w' D' a v:=by
 induction h with
 |int k n=>exact .int k n
 |bool b=>exact .bool b
 |str s=>exact .str s
 |bP=>exact .bP
 |gQ=>exact .gQ
 |iS=>exact .iS
 |jf=>exact .jf
 |iF=>exact .iF
 |err g t s a c ty h1 h2 h3 h4 h5=>exact .err g t s a c ty (hs g h1) ((World.cell?_of_block (hD g h1)).trans h2) (hs _ h3) ((hD _ h3).trans h4) ((World.cell?_of_block (hD _ h3)).trans h5)
 |Bd a c h=>exact .Bd a c h
 |sl rows b o n c sz vs h1 h2 h3 h4 h5 h5' h6 _ ih=>exact .sl rows b o n c sz vs h1 h2 h3 (hs b h4) h5 h5' (fun i j hi hj=>(World.cell?_of_block (hD b h4)).trans (h6 i j hi hj)) ih
 |fe cs b o vs h1 h1' h2 _ ih=>exact .fe cs b o vs (hs b h1) h1' (fun j hj=>(World.cell?_of_block (hD b h1)).trans (h2 j hj)) ih
 |agg cs vs f h1 h2 h3 _ ih=>exact .agg cs vs f h1 h2 h3 ih
 |fn f dG vs g h1 h2 h3 _ ih=>exact .fn f dG vs g h1 h2 h3 ih
theorem dE.frame (hD:∀b,D b->w'.heap[b]? =w.heap[b]?) (hs:∀b,D b->D' b) (hι:∀id B,ι id=some B->ι' id=some B) {a:AV} {v:Value} (h:dE P w D ι a v):dE P w' D' ι' a v:=by
 induction h with
 |eE a v h=>exact .eE a v (h.frame hD hs)
 |map id m B h1 h2=>exact .map id m B (hι _ _ h1) h2
 |qR id c B h1 h2=>exact .qR id c B (hι _ _ h1) h2
 |own id off len o cap B h1 h2 h3 h4 h5 h6=>exact .own id off len o cap B (hι _ _ h1) h2 h3 h4 h5 h6
 |ptr id i off B h1 h2=>exact .ptr id i off B (hι _ _ h1) h2
 |agg cs vs f h1 h2 h3 _ ih=>exact .agg cs vs f h1 h2 h3 ih
 |fN cs vs f h1 h2 _ ih=>exact .fN cs vs f h1 h2 ih
 |fn f dG vs g h1 h2 h3 _ ih=>exact .fn f dG vs g h1 h2 h3 ih
 |tX f dG vs g h1 h2 h3 _ ih=>exact .tX f dG vs g h1 h2 h3 ih
theorem dE.undef:dE P w D ι .undef Go.undef:=.fN [] #[] (fun _=>Go.undef) rfl (fun j hj=>by simp at hj) (fun j a h=>by simp at h)
theorem xh (c:K):dE P w D ι c.av c.val:=by
 cases c with
 |int k n=>exact .eE _ _ (.int k n)
 |bool b=>exact .eE _ _ (.bool b)
 |str l=>exact .eE _ _ (.str _)
 |bP=>exact .eE _ _ .bP
 |gQ=>exact .eE _ _ .gQ
 |iS=>exact .eE _ _ .iS
 |jf=>exact .eE _ _ .jf
 |iF=>exact .eE _ _ .iF
theorem K.mJ (c:K):c.av.cell=true:=by cases c<;>rfl
theorem AM {v:Value} {c:K} (h:HD v=some c):v=c.val:=by
 unfold HD at h
 split at h<;>simp at h<;>subst h<;>rfl
theorem dE.BS {a:AV} {v:Value} (h:dE P w D ι a v) (hc:a.cell=true):v.cells= #[v]/\(∀vs,v≠.agg vs)/\(∀vs,v≠.tuple vs):=by
 cases h with
 |eE a v h=>cases h<;>simp_all [AV.cell,Value.cells]
 |own=>simp[Value.cells]
 |map=>simp[Value.cells]
 |qR=>simp[Value.cells]
 |ptr=>simp[Value.cells]
 |agg=>simp[AV.cell]at hc
 |fN=>simp[AV.cell]at hc
 |fn=>simp[Value.cells]
 |tX=>simp[Value.cells]
theorem dE.cells {a:AV} {v:Value} (h:dE P w D ι a v) (ha:a.cells.all AV.cell=true):v.cells.size=a.cells.length/\∃f:Nat->Value,(∀j,j<a.cells.length->v.cells[j]? =some (f j))/\∀j x,a.cells[j]? =some x->dE P w D ι x (f j):=by
 have one:∀(a:AV) (v:Value),a.cell=true->a.cells=[a]->dE P w D ι a v->v.cells.size=a.cells.length/\∃f:Nat->Value,(∀j,j<a.cells.length->v.cells[j]? =some (f j))/\∀j x,a.cells[j]? =some x->dE P w D ι x (f j):=by
  intro a v hc dW h
  obtain⟨h1,_,_⟩:=h.BS hc
  rw[h1,dW]
  refine⟨rfl,fun _=>v,fun j hj=>?_,fun j x hx=>?_⟩
  ·have:j=0:=by simp at hj;omega
   subst this;rfl
  ·cases j with
   |zero=>simp at hx;subst hx;exact h
   |succ j=>simp at hx
 cases h with
 |eE a v h=>
  cases h with
  |agg cs vs f h1 h2 h3 h4=>exact⟨h1,f,h3,fun j x hx=>.eE _ _ (h4 j x hx)⟩
  |_=>exact one _ _ rfl rfl (.eE _ _ (by constructor<;>assumption))
 |own id off len o cap B h1 h2 h3 h4 h5 h6=>exact one _ _ rfl rfl (.own id off len o cap B h1 h2 h3 h4 h5 h6)
 |ptr id i off B h1 h2=>exact one _ _ rfl rfl (.ptr id i off B h1 h2)
 |map id m B h1 h2=>exact one _ _ rfl rfl (.map id m B h1 h2)
 |qR id c B h1 h2=>exact one _ _ rfl rfl (.qR id c B h1 h2)
 |agg cs vs f h1 h2 h3 h4=>exact⟨h1,f,h3,h4⟩
 |fN cs vs f h1 h2 h3=>simp[AV.cells,AV.cell]at ha
 |fn f dG vs g h1 h2 h3 h4=>exact one _ _ rfl rfl (.fn f dG vs g h1 h2 h3 h4)
 |tX f dG vs g h1 h2 h3 h4=>exact one _ _ rfl rfl (.tX f dG vs g h1 h2 h3 h4)
structure jO (P:Program) (w:World) (D:Nat->Prop) (ι:Names) (B:sr) (r:Row):Prop where
 sz:B.sz=r.sz
 si:∃cells T,w.heap[B.b]? =some (.cells cells T (0,0))/\cells.size=B.C
 fits:r.rows.length*r.sz<=B.C
 len:∀cs∈r.rows,cs.length=r.sz
 flat:∀cs∈r.rows,∀a∈cs,a.cell=true
 at_:∀i j cs a,r.rows[i]? =some cs->cs[j]? =some a->∃v,w.cell? ⟨B.b,i*r.sz+j,none⟩=some v/\dE P w D ι a v
def FE (es:Array MapEntry) (clock:Nat):Prop:=(∀x∈es.toList,x.born<clock)/\(es.toList.map (·.born)).Nodup
def O4 (P:Program) (w:World) (D:Nat->Prop) (ι:Names) (B:sr) (m:MK) (r:Row):Prop:=
 ∃(es:Array MapEntry) (clock:Nat),w.heap[B.b]? =some (.map es clock)/\es.size=r.rows.length/\((∀cs∈r.rows,cs.length=m.ks+1)/\FE es clock)/\
  ∀(i:Nat) (cs:List AV),r.rows[i]? =some cs->∃(e:MapEntry) (kv vv:AV),es[i]? =some e/\part m.ka m.ks cs=some kv/\cs[m.ks]? =some vv/\dE P w D ι kv e.key/\dE P w D ι vv e.val
def IY (P:Program) (w:World) (D:Nat->Prop) (ι:Names) (B:sr) (c:Nat) (r:Row):Prop:=
 ∃(buf:Array Value) (s q:Nat),w.heap[B.b]? =some (.chan c buf false s q false)/\buf.size=r.rows.length/\
  ∀(i:Nat) (cs:List AV),r.rows[i]? =some cs->∃(a:AV) (u:Value),cs=[a]/\buf[i]? =some u/\dE P w D ι a u
structure gC (P:Program) (w:World) (D:Nat->Prop) (ι:Names) (B:sr) (r:Row):Prop where
 sz:B.sz=r.sz
 flat:∀cs∈r.rows,∀a∈cs,a.cell=true
 row:B.k=none->jO P w D ι B r
 map:∀m,B.k=some (.map m)->r.sz=m.j4/\O4 P w D ι B m r
 chan:∀c,B.k=some (.chan c)->r.sz=qU+c/\IY P w D ι B c r
theorem jO.obj {B:sr} {r:Row} (R:jO P w D ι B r) (h:B.k=none):gC P w D ι B r:=⟨R.sz,R.flat,fun _=>R,fun m hm=>(by rw[h]at hm;cases hm),fun m hm=>by rw[h]at hm;cases hm⟩
theorem gC.flag {B:sr} {r:Row} (R:gC P w D ι B r) (b:Bool):gC P w D ι B {r with w:=b}:=⟨R.sz,R.flat,fun h=>⟨R.sz,(R.row h).si,(R.row h).fits,(R.row h).len,R.flat,(R.row h).at_⟩,R.map,R.chan⟩
theorem gC.N9 {B:sr} {r:Row} (R:gC P w D ι B r) {c:Array Value} {T:TypeId} {z:Nat×Nat} (h:w.heap[B.b]? =some (.cells c T z)):B.k=none:=by
 cases hk:B.k with
 |none=>rfl
 |some m=>
  cases m with
  |map m=>obtain⟨_,es,c,h3,_⟩:=R.map m hk;rw[h]at h3;cases h3
  |chan c=>obtain⟨_,buf,s,q,h3,_⟩:=R.chan c hk;rw[h]at h3;cases h3
theorem gC.lt {B:sr} {r:Row} (R:gC P w D ι B r):B.b<w.heap.size:=by
 cases h:B.k with
 |none=>
  obtain⟨c,T,h3,_⟩:=(R.row h).si
  exact(Array.getElem?_eq_some_iff.1 h3).1
 |some m=>
  cases m with
  |map m=>obtain⟨_,es,c,h3,_⟩:=R.map m h;exact(Array.getElem?_eq_some_iff.1 h3).1
  |chan c=>obtain⟨_,buf,s,q,h3,_⟩:=R.chan c h;exact(Array.getElem?_eq_some_iff.1 h3).1
structure fZ (P:Program) (hs:Nat) (D:Nat->Prop) (ι:Names) (g:Rows) (w:World):Prop where
 lo:hs<=w.heap.size
 dead:∀b,D b->b<w.heap.size
 row:∀id r,g id=some r->∃B,ι id=some B/\gC P w D ι B r/\(r.w=true->hs<=B.b)/\(r.w=true->¬D B.b)
 inj:∀id jR r r' B B',g id=some r->g jR=some r'->r.w=true->ι id=some B->ι jR=some B'->B.b=B'.b->id=jR
def Used (ι:Names) (n:Nat) (U:Nat->Prop):Prop:=∀id,ι id≠none->id.cV<n∨(id.cV=n/\U id.site)
structure Step (hs:Nat) (D:Nat->Prop) (ι:Names) (w:World) (D':Nat->Prop) (ι':Names) (w':World):Prop where
 below:Below hs w w'
 yn:∀b,D b->w'.heap[b]? =w.heap[b]?
 dead:∀b,D b->D' b
 names:∀id B,ι id=some B->ι' id=some B
 new:∀b,D' b->D b∨hs<=b
theorem Step.refl (hs:Nat) (D:Nat->Prop) (ι:Names) (w:World):Step hs D ι w D ι w:=⟨Below.refl _ _,fun _ _=>rfl,fun _ h=>h,fun _ _ h=>h,fun _ h=>.inl h⟩
theorem Step.trans {hs:Nat} {D D' D'':Nat->Prop} {ι ι' Wa:Names} {w w' MC:World} (h:Step hs D ι w D' ι' w') (k:Step hs D' ι' w' D'' Wa MC):Step hs D ι w D'' Wa MC:=
 ⟨h.below.trans k.below,fun b hb=>(k.yn b (h.dead b hb)).trans (h.yn b hb),fun b hb=>k.dead b (h.dead b hb),fun id B hB=>k.names id B (h.names id B hB),fun b hb=>by
  rcases k.new b hb with hb|hb
  ·exact h.new b hb
  ·exact .inr hb⟩
theorem Step.rep {hs:Nat} {D D':Nat->Prop} {ι ι':Names} {w w':World} (h:Step hs D ι w D' ι' w') {a:AV} {v:Value} (hr:dE P w D ι a v):dE P w' D' ι' a v:=hr.frame h.yn h.dead h.names
theorem dI {k n} {v:Value} (h:dE P w D ι (.int k n) v):v=.int k n:=by
 cases h with
 |eE _ _ h=>cases h;rfl
theorem fA {b} {v:Value} (h:dE P w D ι (.bool b) v):v=.bool b:=by
 cases h with
 |eE _ _ h=>cases h;rfl
theorem fU {s} {v:Value} (h:dE P w D ι (.str s) v):v=.string s:=by
 cases h with
 |eE _ _ h=>cases h;rfl
theorem iN {v:Value} (h:dE P w D ι .bP v):v=.slice none 0 0:=by
 cases h with
 |eE _ _ h=>cases h;rfl
theorem xj {v:Value} (h:dE P w D ι .iS v):v=.nilFunc:=by
 cases h with
 |eE _ _ h=>cases h;rfl
theorem iy {cs} {v:Value} (h:dE P w D ι (.agg cs) v):∃(vs:Array Value) (f:Nat->Value),v=.agg vs/\vs.size=cs.length/\(∀a∈cs,a.cell=true)/\(∀j,j<cs.length->vs[j]? =some (f j))/\∀j a,cs[j]? =some a->dE P w D ι a (f j):=by
 cases h with
 |eE _ _ h=>
  cases h with
  |agg cs vs f h1 h2 h3 h4=>exact⟨vs,f,rfl,h1,h2,h3,fun j a h=>.eE _ _ (h4 j a h)⟩
 |agg cs vs f h1 h2 h3 h4=>exact⟨vs,f,rfl,h1,h2,h3,h4⟩
theorem uQ {cs} {v:Value} (h:dE P w D ι (.fN cs) v):∃(vs:Array Value) (f:Nat->Value),v=.tuple vs/\vs.size=cs.length/\(∀j,j<cs.length->vs[j]? =some (f j))/\∀j a,cs[j]? =some a->dE P w D ι a (f j):=by
 cases h with
 |eE _ _ h=>cases h
 |fN cs vs f h1 h2 h3=>exact⟨vs,f,rfl,h1,h2,h3⟩
theorem s4 {f dG} {v:Value} (h:dE P w D ι (.fn f dG) v):∃(vs:Array Value) (g:Nat->Value),v=.func (.func f) #[] vs/\fY P f=true/\vs.size=dG.length/\(∀j,j<dG.length->vs[j]? =some (g j))/\∀j a,dG[j]? =some a->dE P w D ι a (g j):=by
 cases h with
 |eE _ _ h=>
  cases h with
  |fn f dG vs g h1 h2 h3 h4=>exact⟨vs,g,rfl,h1,h2,h3,fun j a h=>.eE _ _ (h4 j a h)⟩
 |fn f dG vs g h1 h2 h3 h4=>exact⟨vs,g,rfl,h1,h2,h3,h4⟩
theorem Ll {v:Value} (h:dE P w D ι .gQ v):v=.pointer none:=by
 cases h with
 |eE _ _ h=>cases h;rfl
theorem C5 {v:Value} (h:dE P w D ι .jf v):v=.map none:=by
 cases h with
 |eE _ _ h=>cases h;rfl
theorem xi {v:Value} (h:dE P w D ι .iF v):v=.nilIface:=by
 cases h with
 |eE _ _ h=>cases h;rfl
theorem pD {g t s} {v:Value} (h:dE P w D ι (.err g t s) v):∃a c ty,v=.iface t (.pointer (some a))/\D g/\w.cell? ⟨g,0,none⟩=some v/\D a.block/\w.heap[a.block]? =some (.cells c ty (0,0))/\w.cell? a=some (.string s):=by
 cases h with
 |eE _ _ h=>cases h with
  |err _ _ _ a c ty h1 h2 h3 h4 h5=>exact⟨a,c,ty,rfl,h1,h2,h3,h4,h5⟩
theorem Ov {f dG} {v:Value} (h:dE P w D ι (.tX f dG) v):∃(vs:Array Value) (g:Nat->Value),v=.func (.func f) vs #[]/\fY P f=true/\vs.size=dG.length/\(∀j,j<dG.length->vs[j]? =some (g j))/\∀j a,dG[j]? =some a->dE P w D ι a (g j):=by
 cases h with
 |eE _ _ h=>cases h
 |tX f dG vs g h1 h2 h3 h4=>exact⟨vs,g,rfl,h1,h2,h3,h4⟩
theorem iz {id off len} {v:Value} (h:dE P w D ι (.own id off len) v):∃o cap B,v=.slice (some ⟨B.b,o,none⟩) len cap/\ι id=some B/\len<=cap/\(cap=0∨o=off*B.sz)/\(off+cap)*B.sz<=B.C/\cap<=maxLen/\B.k=none:=by
 cases h with
 |eE _ _ h=>cases h
 |own id off len o cap B h1 h2 h3 h4 h5 h6=>exact⟨o,cap,B,rfl,h1,h3,h4,h5,h6,h2⟩
theorem gW {id i off} {v:Value} (h:dE P w D ι (.ptr id i off) v):∃B,v=.pointer (some ⟨B.b,i*B.sz+off,none⟩)/\ι id=some B/\B.k=none:=by
 cases h with
 |eE _ _ h=>cases h
 |ptr id i off B h1 h2=>exact⟨B,rfl,h1,h2⟩
theorem Ot {id} {v:Value} (h:dE P w D ι (.qR id) v):∃B c,v=.chan (some B.b)/\ι id=some B/\B.k=some (.chan c):=by
 cases h with
 |eE _ _ h=>cases h
 |qR id c B h1 h2=>exact⟨B,c,rfl,h1,h2⟩
theorem A7 {id m} {v:Value} (h:dE P w D ι (.map id m) v):∃B,v=.map (some B.b)/\ι id=some B/\B.k=some (.map m):=by
 cases h with
 |eE _ _ h=>cases h
 |map id m B h1 h2=>exact⟨B,rfl,h1,h2⟩
theorem kP {cs} {v:Value} (h:dE P w D ι (.fe cs) v):∃b o,∃vs:Nat->Value,v=.pointer (some ⟨b,o,none⟩)/\D b/\(∀a∈cs,a.cell=true)/\(∀j,j<cs.length->w.cell? ⟨b,o+j,none⟩=some (vs j))/\∀j a,cs[j]? =some a->jA P w D a (vs j):=by
 cases h with
 |eE _ _ h=>
  cases h with
  |fe cs b o vs h1 h2 h3 h4=>exact⟨b,o,vs,rfl,h1,h2,h3,h4⟩
theorem xk {rows} {v:Value} (h:dE P w D ι (.sl rows) v):∃A c,v=.slice A rows.length c/\rows.length<=c/\c<=maxLen/\
  (rows=[]∨∃b o sz,∃vs:Nat->Nat->Value,A=some ⟨b,o,none⟩/\D b/\(∀cs∈rows,cs.length=sz)/\(∀cs∈rows,∀a∈cs,a.cell=true)/\
   (∀i j,i<rows.length->j<sz->w.cell? ⟨b,o+(i*sz+j),none⟩=some (vs i j))/\∀i j cs a,rows[i]? =some cs->cs[j]? =some a->jA P w D a (vs i j)):=by
 cases h with
 |eE _ _ h=>
  cases h with
  |Bd a c h=>exact⟨a,c,rfl,Nat.zero_le _,h,.inl rfl⟩
  |sl rows b o n c sz vs h1 h2 h3 h4 h5 h5' h6 h7=>subst h1;exact⟨_,c,rfl,h2,h3,.inr ⟨b,o,sz,vs,rfl,h4,h5,h5',h6,h7⟩⟩
inductive e8:AV->Prop
 |int (k n):e8 (.int k n)
 |bool (b):e8 (.bool b)
 |str (s):e8 (.str s)
 |bP:e8 .bP
 |gQ:e8 .gQ
 |iS:e8 .iS
 |sl (rows):rows.length<=maxLen->(∀cs∈rows,∀a∈cs,e8 a)->e8 (.sl rows)
 |own (id off len):e8 (.own id off len)
 |ptr (id i off):e8 (.ptr id i off)
 |fe (cs):(∀a∈cs,e8 a)->e8 (.fe cs)
 |agg (cs):(∀a∈cs,e8 a)->e8 (.agg cs)
 |fN (cs):(∀a∈cs,e8 a)->e8 (.fN cs)
 |fn (f dG):(∀a∈dG,e8 a)->e8 (.fn f dG)
 |map (id m):e8 (.map id m)
 |qR (id):e8 (.qR id)
 |jf:e8 .jf
 |iF:e8 .iF
 |err (g t s):e8 (.err g t s)
 |tX (f dG):(∀a∈dG,e8 a)->e8 (.tX f dG)
theorem e8.len {rows:List (List AV)} (h:e8 (.sl rows)):rows.length<=9223372036854775807:=by
 cases h with
 |sl _ h _=>unfold maxLen at h;omega
theorem e8.MN {cs:List AV} (h:e8 (.agg cs)) {a:AV} (ha:a∈cs):e8 a:=by
 cases h with
 |agg _ h=>exact h a ha
theorem oQ {l:List AV} {p:AV->Prop} (h:∀(j:Nat) (a:AV),l[j]? =some a->p a):∀a∈l,p a:=fun a ha=>by
 obtain⟨j,hj,rfl⟩:=List.getElem_of_mem ha
 exact h j _ (List.getElem?_eq_getElem hj)
theorem jA.KI {a:AV} {v:Value} (h:jA P w D a v):e8 a:=by
 induction h with
 |int k n=>exact .int k n
 |bool b=>exact .bool b
 |str s=>exact .str s
 |bP=>exact .bP
 |gQ=>exact .gQ
 |iS=>exact .iS
 |jf=>exact .jf
 |iF=>exact .iF
 |err g t s=>exact .err g t s
 |Bd a c h=>exact .sl [] (Nat.zero_le _) (fun cs h=>by cases h)
 |sl rows b o n c sz vs h1 h2 h3 h4 h5 h5' h6 _ ih=>
  exact .sl rows ab fun cs dW a ha=>by
   obtain⟨i,hi,rfl⟩:=List.getElem_of_mem dW
   obtain⟨j,hj,rfl⟩:=List.getElem_of_mem ha
   exact ih i j _ _ (List.getElem?_eq_getElem hi) (List.getElem?_eq_getElem hj)
 |fe cs b o vs h1 h1' h2 _ ih=>exact .fe cs (oQ ih)
 |agg cs vs f h1 h2 h3 _ ih=>exact .agg cs (oQ ih)
 |fn f dG vs g h1 h2 h3 _ ih=>exact .fn f dG (oQ ih)
theorem dE.KI {a:AV} {v:Value} (h:dE P w D ι a v):e8 a:=by
 induction h with
 |eE a v h=>exact h.KI
 |own id off len o cap B=>exact .own _ _ _
 |ptr id i off B=>exact .ptr _ _ _
 |map id m B=>exact .map _ _
 |qR id c B=>exact .qR _
 |agg cs vs f h1 h2 h3 _ ih=>exact .agg cs (oQ ih)
 |fN cs vs f h1 h2 _ ih=>exact .fN cs (oQ ih)
 |fn f dG vs g h1 h2 h3 _ ih=>exact .fn f dG (oQ ih)
 |tX f dG vs g h1 h2 h3 _ ih=>exact .tX f dG (oQ ih)
end Go.Proofs.YtalkncaokeaifaaGreatDoor.V

namespace Go.Proofs.YtalkncaokeaifaaGreatDoor.V
open Go.RowKit
variable {P:Program} {w w':World} {D D':Nat->Prop} {ι ι':Names}
def dh (P:Program) (w:World) (D:Nat->Prop) (ι:Names) (env:Env) (a:Act):Prop:=∀t,dE P w D ι (env t) (a.tmps.getD t undef)
theorem rI {vs:List Value} {cs:List K} (h:vs.mapM HD=some cs):cs.length=vs.length/\∀(j:Nat) (c:K),cs[j]? =some c->vs[j]? =some c.val:=by
 induction vs generalizing cs with
 |nil=>simp at h;subst h;simp
 |cons v r ih=>
  simp only[List.mapM_cons,Option.bind_eq_bind,Option.bind_eq_some_iff]at h
  obtain⟨c,hc,qT,dW,h⟩:=h
  simp at h;subst h
  obtain⟨h1,h2⟩:=ih dW
  refine⟨by simp[h1],fun j d hd=>?_⟩
  cases j with
  |zero=>simp at hd ⊢;subst hd;exact AM hc
  |succ j=>simp at hd ⊢;exact h2 j d hd
theorem YU {vs:List Value} {cs:List K} (h:vs.mapM HD=some cs):dE P w D ι (.agg (cs.map K.av)) (.agg vs.toArray):=by
 obtain⟨h1,h2⟩:=rI h
 refine .agg _ _ (fun j=>vs.getD j undef) (by simp[h1]) (fun a ha=>?_) (fun j hj=>?_) (fun j a ha=>?_)
 ·obtain⟨c,_,rfl⟩:=List.mem_map.1 ha;exact c.mJ
 ·simp at hj;simp[List.getElem?_eq_getElem (show j<vs.length by omega)]
 ·simp only[List.getElem?_map,Option.map_eq_some_iff]at ha
  obtain⟨c,hc,rfl⟩:=ha
  rw[List.getD_eq_getElem?_getD,h2 j c hc];exact xh c
theorem dM {env:Env} {a:Act} {x:Operand} {y:O} (E:dh P w D ι env a) (h:cO P x=some y):dE P w D ι (cZ env y) (a.eval x):=by
 unfold cO at h
 split at h
 ·simp at h;subst h;exact E _
 ·simp only[Option.map_eq_some_iff]at h
  obtain⟨cs,dW,rfl⟩:=h
  have:=YU (P:=P) (w:=w) (D:=D) (ι:=ι) dW
  simpa[Act.eval,cZ]using this
 ·simp only[Option.map_eq_some_iff]at h
  obtain⟨c,hc,rfl⟩:=h
  simp only[Act.eval,cZ]
  rw[AM hc];exact xh c
 ·simp at h
 ·split at h
  ·rename_i hc
   simp at h;subst h
   simp only[Act.eval,cZ]
   exact .fn _ _ _ (fun _=>undef) hc rfl (fun j hj=>by simp at hj) (fun j a h=>by simp at h)
  ·simp at h
def nP (P:Program) (a:Act) (o:Oper) (w:World) (D:Nat->Prop) (ι:Names) (v:AV):Prop:=∃u,(execOp a.eval o).run P w=.ok (.value u) w/\dE P w D ι v u
section
variable {g:Rows} {hs:Nat} {env:Env} {a:Act} {o:Oper} {id:Id} {v:AV}
theorem P3 {x:Operand} {y:O} (E:dh P w D ι env a) (ho:o.op=.move x∨o.op=.assign x) (hx:cO P x=some y):nP P a o w D ι (cZ env y):=by
 refine⟨a.eval x,?_,dM E hx⟩
 rcases ho with h|h<;>simp[execOp,h,go_sem]
theorem Sx {c x y:Operand} {c' x' y':O} (E:dh P w D ι env a) (ho:o.op=.pick c x y) (hc:cO P c=some c') (hx:cO P x=some x') (hy:cO P y=some y') (hv:cz (cZ env c') (cZ env x') (cZ env y')=some v):nP P a o w D ι v:=by
 unfold cz at hv
 split at hv
 ·rename_i b hb
  simp at hv;subst hv
  have h1:=fA (hb▸dM E hc)
  refine⟨if b then a.eval x else a.eval y,by simp only[execOp,ho,h1,asBool];rfl,?_⟩
  cases b
  ·exact dM E hy
  ·exact dM E hx
 ·simp at hv
theorem VY {op:BinOp} {x y:Operand} {x' y':O} {t yt:TypeId} (E:dh P w D ι env a) (ho:o.op=.binOp op t x y yt) (he:op≠.eql) (hn:op≠.neq) (hx:cO P x=some x') (hy:cO P y=some y') (hv:dj op (cZ env x') (cZ env y')=some v):nP P a o w D ι v:=by
 unfold dj at hv
 split at hv
 ·rename_i k n k' m hb sH
  split at hv
  ·rename_i hk
   subst hk
   have h1:=dI (hb▸dM E hx)
   have h2:=dI (sH▸dM E hy)
   have key:∀u,(binOp op t (.int k n) (.int k m)).run P w=.ok u w->(execOp a.eval o).run P w=.ok (.value u) w:=fun u hu=>by
    have e0:eqGuard op t x y (.int k n) (.int k m)=pure ():=by unfold eqGuard;cases op<;>rfl
    simp only[execOp,ho,h1,h2,e0]
    simp[go_sem,hu]
   cases op<;>simp only[cW]at hv<;>(try(simp at hv;done))<;>(try split at hv)<;>(try(simp at hv;done))<;>simp only[Option.some.injEq]at hv<;>subst hv<;>
    (refine⟨_,key _ (by simp only[binOp,ne_eq,not_true_eq_false,if_false,Op.intArith,Op.intDiv,Op.intBits,Op.intCmp, *];rfl),?_⟩)<;>
    first
     |exact .eE _ _ (.int _ _)
     |exact .eE _ _ (.bool _)
  ·simp at hv
 ·simp at hv
theorem Sg {op:BinOp} {x y:Operand} {x' y':O} {t yt:TypeId} (E:dh P w D ι env a) (ho:o.op=.binOp op t x y yt) (he:op≠.eql) (hn:op≠.neq) (hx:cO P x=some x') (hy:cO P y=some y') (hv:cC op (cZ env x') (cZ env y')=some v):nP P a o w D ι v:=by
 unfold cC at hv
 split at hv
 ·rename_i n m hb sH
  have h1:=fU (hb▸dM E hx)
  have h2:=fU (sH▸dM E hy)
  cases op<;>simp only[dw]at hv<;>(try(simp at hv;done))
  case add=>
   split at hv
   ·rename_i hl
    simp only[Option.some.injEq]at hv;subst hv
    exact⟨_,by simp only[execOp,ho,h1,h2];simp[eqGuard,binOp,go_sem];exact hl,.eE _ _ (.str _)⟩
   ·simp at hv
  all_goals
   simp only[Option.some.injEq]at hv;subst hv
   exact⟨_,by simp only[execOp,ho,h1,h2];simp[eqGuard,binOp,Op.stringOp,go_sem],.eE _ _ (.bool _)⟩
 ·simp at hv
theorem Gz (n m:ByteArray):(n.toList==m.toList)=decide (n=m):=by
 rw[ByteArray.toList_eq,ByteArray.toList_eq]
 by_cases h:n=m
 ·subst h;simp
 ·have:n.data.toList≠m.data.toList:=fun he=>h (ByteArray.ext (Array.ext' he))
  rw[decide_eq_false h];exact beq_eq_false_iff_ne.2 this
theorem pG {t:TypeId} (h:fM P t=some .tB):P.underlying t=some .bool:=by unfold fM at h;split at h<;>simp_all
theorem pH {t:TypeId} (h:fM P t=some .tI):∃k,P.underlying t=some (.int k):=by unfold fM at h;split at h<;>simp_all
theorem pI {t:TypeId} (h:fM P t=some .tS):P.underlying t=some .string:=by unfold fM at h;split at h<;>simp_all
theorem rX {d:Nat} {t:TypeId} {s:TS} {x y:AV} {u u':Value} {b:Bool} (hx:dE P w D ι x u) (hy:dE P w D ι y u') (hv:er s x y=some b) (ht:fM P t=some s):(Op.equalIn (d+1) t u u').run P w=.ok b w:=by
 unfold er at hv
 split at hv
 ·rename_i k n k' m
  split at hv
  ·rename_i hk
   subst hk
   simp at hv;subst hv
   obtain⟨q,hq⟩:=pH ht
   rw[dI hx,dI hy,run_equalIn_int _ _ _ _ _ _ _ hq];rfl
  ·simp at hv
 ·simp at hv;subst hv
  rw[fA hx,fA hy,run_equalIn_bool' _ _ _ _ _ (pG ht)]
 ·simp at hv;subst hv
  rw[fU hx,fU hy,run_equalIn_string _ _ _ _ _ (pI ht),Gz]
 ·simp at hv
def fE (P:Program) (w:World) (D:Nat->Prop) (ι:Names) (xs:List AV) (vs:Array Value):Prop:=vs.size=xs.length/\∀(j:Nat) (a:AV),xs[j]? =some a->∃u,vs[j]? =some u/\dE P w D ι a u
theorem fE.part {xs:List AV} {vs:Array Value} (h:fE P w D ι xs vs) (off n:Nat) (hn:off+n<=xs.length):fE P w D ι ((xs.drop off).take n) (vs.extract off (off+n)):=by
 refine⟨by simp[h.1];omega,fun j a ha=>?_⟩
 rw[List.getElem?_take]at ha
 split at ha
 ·rename_i hj
  rw[List.getElem?_drop]at ha
  obtain⟨u,h1,h2⟩:=h.2 _ _ ha
  refine⟨u,?_,h2⟩
  rw[Array.getElem?_extract]
  rw[if_pos (by rw[h.1];omega),h1]
 ·simp at ha
theorem qZ:∀{ts:List TS} {xs ys:List AV} {b:Bool},ea ts xs ys=some b->xs.length=ts.length/\ys.length=ts.length
 |[],[],[],_,_=>⟨rfl,rfl⟩
 |t::ts,x::xs,y::ys,b,h=>by
  unfold ea at h
  split at h
  ·rename_i c d h1 h2
   have:=qZ h2
   simp[this.1,this.2]
  ·simp at h
 |[],[],_::_,_,h=>by simp[ea]at h
 |[],_::_,_,_,h=>by simp[ea]at h
 |_::_,[],_,_,h=>by simp[ea]at h
 |_::_,_::_,[],_,h=>by simp[ea]at h
theorem FT:∀{ts us:List TS} {xs ys:List AV} {b:Bool},ea (ts++us) xs ys=some b->∃c d,ea ts (xs.take ts.length) (ys.take ts.length)=some c/\ea us (xs.drop ts.length) (ys.drop ts.length)=some d/\b=(c&&d)
 |[],us,xs,ys,b,h=>⟨true,b,by simp[ea],by simpa using h,by simp⟩
 |t::ts,us,x::xs,y::ys,b,h=>by
  simp only[List.cons_append]at h
  unfold ea at h
  split at h
  ·rename_i c d h1 h2
   obtain⟨c',d',h3,h4,rfl⟩:=FT h2
   simp at h;subst h
   exact⟨c&&c',d',by simp[ea,h1,h3],by simpa using h4,by simp[Bool.and_assoc]⟩
  ·simp at h
 |t::ts,us,[],ys,b,h=>by simp[ea]at h
 |t::ts,us,x::xs,[],b,h=>by simp[ea]at h
theorem mm {t:TypeId} {vs:Array Value} {off:Nat} {u:Value} (ha:lY P t=some false) (hu:vs[off]? =some u):(Go.part t vs off).run P w=.ok u w:=by
 unfold lY at ha
 have hi:(isAgg t).run P w=.ok false w:=by
  split at ha<;>simp at ha
  rename_i d h1 h2 hd
  simp only[isAgg,Sem.run_bind,run_underlying hd,Result.andThen_ok]
  cases d<;>simp_all
 simp[Go.part,hi,hu]
theorem s5 {t:TypeId} {b:Bool} (ha:lY P t=some b):(isAgg t).run P w=.ok b w:=by
 unfold lY at ha
 split at ha<;>simp at ha<;>subst ha<;>rename_i hd<;>simp only[isAgg,Sem.run_bind,run_underlying hd,Result.andThen_ok]<;>(try simp)
theorem run_sizeOf {t:TypeId} {n:Nat} (h:ej P t=some n):(sizeOf t).run P w=.ok n w:=by
 unfold ej at h
 simp only[Option.map_eq_some_iff]at h
 obtain⟨i,hi,rfl⟩:=h
 simp[sizeOf,typeInfo,hi]
theorem pF {t:TypeId} {vs:Array Value} {off n:Nat} (ha:lY P t=some true) (hn:ej P t=some n):(Go.part t vs off).run P w=.ok (.agg (vs.extract off (off+n))) w:=by
 simp[Go.part,s5 ha,run_sizeOf hn]
theorem JS (d off:Nat):eQ P (d+1) off []=some []:=rfl
theorem yR (d off:Nat) (f:Field) (r:List Field):eQ P (d+1) off (f::r)=(if f.offset=off/\f.name≠ "_" then
   match fM P f.type with
   |some t=>if lY P f.type=some false then(eQ P (d+1) (off+1) r).map (t::·)else none
   |none=>match P.underlying f.type with
    |some (.struct fs)=>if !P.stoodInHeld f.type then match eQ P d 0 fs.toList with
     |some ts=>if ej P f.type=some ts.length/\ts≠[]then(eQ P (d+1) (off+ts.length) r).map (ts++·)else none
     |none=>none else none
    |_=>none
  else none):=rfl
theorem rW:∀(d:Nat) (fs:List Field) (off:Nat) (ts:List TS),eQ P d off fs=some ts->∀(N:Nat) (_:d<=N) (xs ys:List AV) (vs us:Array Value) (b:Bool),fE P w D ι xs vs->fE P w D ι ys us->
  ea ts ((xs.drop off).take ts.length) ((ys.drop off).take ts.length)=some b->(Op.eqFields (N+1) vs us fs).run P w=.ok b w:=by
 intro d
 induction d with
 |zero=>
  intro fs off ts hf N _ xs ys vs us b _ _ he
  cases fs with
  |nil=>simp[eQ]at hf;subst hf;simp[ea]at he;subst he;simp[Op.eqFields]
  |cons f r=>simp[eQ]at hf
 |succ d ihd=>
  intro fs
  induction fs with
  |nil=>
   intro off ts hf N _ xs ys vs us b _ _ he
   rw[JS]at hf;simp at hf;subst hf;simp[ea]at he;subst he;simp[Op.eqFields]
  |cons f r ih=>
   intro off ts hf N hN xs ys vs us b hx hy he
   rw[yR]at hf
   split at hf
   ·rename_i hcond
    obtain⟨ho,gZ⟩:=hcond
    split at hf
    ·rename_i s hs
     split at hf
     ·rename_i tM
      simp only[Option.map_eq_some_iff]at hf
      obtain⟨MB,hr,rfl⟩:=hf
      obtain⟨l1,l2⟩:=qZ he
      simp only[List.length_cons,List.length_take,List.length_drop]at l1 l2
      have IP:off<xs.length:=ab
      have hyo:off<ys.length:=ab
      rw[List.drop_eq_getElem_cons IP,List.drop_eq_getElem_cons hyo,List.length_cons,List.take_succ_cons,List.take_succ_cons]at he
      unfold ea at he
      split at he
      ·rename_i c d' h1 h2
       simp at he;subst he
       obtain⟨u,hu,ru⟩:=hx.2 off _ (List.getElem?_eq_getElem IP)
       obtain⟨u',F9,ru'⟩:=hy.2 off _ (List.getElem?_eq_getElem hyo)
       have:=ih (off+1) MB hr N hN xs ys vs us d' hx hy h2
       simp only[Op.eqFields,if_pos gZ,Sem.run_bind,ho,mm tM hu,mm tM F9,Result.andThen_ok,rX ru ru' h1 hs,Sem.run_ite]
       cases c<;>simp[this]
      ·simp at he
     ·simp at hf
    ·split at hf
     ·rename_i fs' rl
      split at hf
      ·rename_i ed
       split at hf
       ·rename_i ts1 hts1
        split at hf
        ·rename_i fc
         simp only[Option.map_eq_some_iff]at hf
         obtain⟨MB,hr,rfl⟩:=hf
         obtain⟨c,d',h1,h2,rfl⟩:=FT he
         obtain⟨l1,l2⟩:=qZ he
         simp only[List.length_append,List.length_take,List.length_drop]at l1 l2
         have tM:lY P f.type=some true:=by simp[lY,rl]
         have kC:0<ts1.length:=List.length_pos_iff.2 fc.2
         have NN:off+ts1.length<=xs.length:=ab
         have hy1:off+ts1.length<=ys.length:=ab
         rw[List.drop_take,List.drop_drop,List.drop_take,List.drop_drop]at h2
         rw[List.take_take,List.take_take]at h1
         simp only[List.length_append]at h1 h2
         rw[Nat.min_eq_left ab]at h1
         have e2:ts1.length+MB.length-ts1.length=MB.length:=ab
         rw[e2]at h2
         have:=ih (off+ts1.length) MB hr N hN xs ys vs us d' hx hy h2
         have im:=ihd fs'.toList 0 ts1 hts1 (N-1) ab _ _ _ _ c (hx.part off ts1.length NN) (hy.part off ts1.length hy1) (by simpa[List.take_take]using h1)
         have hN':N-1+1=N:=ab
         rw[hN']at im
         have Ka:P.fieldsOf f.type=fs':=by simp[Program.fieldsOf,rl]
         simp only[Op.eqFields,if_pos gZ,Sem.run_bind,ho,pF tM fc.1,Result.andThen_ok,Sem.run_ite]
         rw[run_equalIn_struct w N f.type _ _ (by rw[Ka];exact rl) (by simpa using ed),Ka,im]
         cases c<;>simp[this]
        ·simp at hf
       ·simp at hf
      ·simp at hf
     ·simp at hf
   ·simp at hf
theorem V2 {x y:Operand} {x' y':O} {t yt:TypeId} {neg:Bool} {s:TS} {b:Bool} (E:dh P w D ι env a) (ho:o.op=.binOp (if neg then .neq else .eql) t x y yt) (hs:fM P t=some s) (hx:cO P x=some x') (hy:cO P y=some y')
  (hv:er s (cZ env x') (cZ env y')=some b):nP P a o w D ι (.bool (cR neg b)):=by
 have rx:=dM E hx
 have ry:=dM E hy
 refine⟨.bool (cR neg b),?_,.eE _ _ (.bool _)⟩
 have e0:(eqGuard (if neg then .neq else .eql) t x y (a.eval x) (a.eval y)).run P w=.ok () w:=by
  unfold er at hv
  split at hv
  ·rename_i k n k' m h1 h2
   rw[h1]at rx;rw[h2]at ry
   rw[dI rx,dI ry];unfold eqGuard;cases neg<;>simp
  ·rename_i n m h1 h2
   rw[h1]at rx;rw[h2]at ry
   rw[fA rx,fA ry];unfold eqGuard;cases neg<;>simp
  ·rename_i n m h1 h2
   rw[h1]at rx;rw[h2]at ry
   rw[fU rx,fU ry];unfold eqGuard;cases neg<;>simp
  ·simp at hv
 have e1:(binOp (if neg then .neq else .eql) t (a.eval x) (a.eval y)).run P w=.ok (.bool (cR neg b)) w:=by
  have q:=rX (d:=9999) rx ry hv hs
  unfold er at hv
  split at hv
  ·rename_i k n k' m h1 h2
   split at hv
   ·rename_i hk
    subst hk
    simp at hv;subst hv
    rw[h1]at rx;rw[h2]at ry
    rw[dI rx,dI ry]
    cases neg<;>simp only[binOp,ne_eq,not_true_eq_false,if_false,Op.intCmp,cR,if_true,Bool.false_eq_true]<;>simp[bne]<;>rfl
   ·simp at hv
  ·rename_i n m h1 h2
   rw[h1]at rx;rw[h2]at ry
   rw[fA rx,fA ry]at q ⊢
   cases neg<;>simp only[binOp,cR,if_true,Bool.false_eq_true,if_false,Sem.run_bind]<;>simp[Op.equal,Op.maxDepth,q]
  ·rename_i n m h1 h2
   simp at hv;subst hv
   rw[h1]at rx;rw[h2]at ry
   rw[fU rx,fU ry]
   cases neg<;>simp[binOp,Op.stringOp,cR,Gz]
  ·simp at hv
 simp only[execOp,ho,Sem.run_bind,e0,e1,Result.andThen_ok,Sem.run_pure]
theorem V0 {x y:Operand} {x' y':O} {t yt:TypeId} {neg:Bool} {ts:List TS} {fs:Array Field} {xs ys:List AV} {b:Bool} (E:dh P w D ι env a) (ho:o.op=.binOp (if neg then .neq else .eql) t x y yt) (rl:P.underlying t=some (.struct fs)) (ed:P.stoodInHeld t=false) (Nx:P.eqGuardType P.depth t=false)
  (qE:eQ P 4 0 fs.toList=some ts) (hx:cO P x=some x') (hy:cO P y=some y') (h1:cZ env x'=.agg xs) (h2:cZ env y'=.agg ys)
  (hv:ea ts xs ys=some b):nP P a o w D ι (.bool (cR neg b)):=by
 obtain⟨vs,f,rx,n1,_,f1,r1⟩:=iy (h1▸dM E hx)
 obtain⟨us,f',ry,n2,_,f2,r2⟩:=iy (h2▸dM E hy)
 refine⟨.bool (cR neg b),?_,.eE _ _ (.bool _)⟩
 obtain⟨l1,l2⟩:=qZ hv
 have L:∀(xs:List AV) (vs:Array Value) (f:Nat->Value),vs.size=xs.length->(∀j,j<xs.length->vs[j]? =some (f j))->(∀j a,xs[j]? =some a->dE P w D ι a (f j))->fE P w D ι xs vs:=fun xs vs f h1 h2 h3=>
  ⟨h1,fun j a ha=>⟨f j,h2 j (List.getElem?_eq_some_iff.1 ha).1,h3 j a ha⟩⟩
 have q:=rW (w:=w) 4 fs.toList 0 ts qE 9998 ab xs ys vs us b (L _ _ _ n1 f1 r1) (L _ _ _ n2 f2 r2) (by simpa[List.take_of_length_le,l1,l2]using hv)
 have Ka:P.fieldsOf t=fs:=by simp[Program.fieldsOf,rl]
 have q2:(Op.equal t (.agg vs) (.agg us)).run P w=.ok b w:=by
  unfold Op.equal
  rw[show Op.maxDepth=9999+1 from rfl,run_equalIn_struct w 9999 t _ _ (by rw[Ka];exact rl) ed,Ka,q]
 simp only[execOp,ho,Sem.run_bind,rx,ry,run_eqGuard_agg w _ _ _ _ _ _ Nx,Result.andThen_ok]
 cases neg<;>simp[binOp,q2,cR]
theorem Sj {x:Operand} {x':O} {t yt e:TypeId} {neg:Bool} {b:Bool} (E:dh P w D ι env a) (ho:o.op=.binOp (if neg then .neq else .eql) t x (.const (.slice none 0 0)) yt) (ht:P.underlying t=some (.slice e)) (hx:cO P x=some x')
  (hv:cw (cZ env x')=some b):nP P a o w D ι (.bool (cR neg b)):=by
 have hr:=dM E hx
 have rx:∃A n c,a.eval x=.slice A n c/\b=A.isNone:=by
  unfold cw at hv
  split at hv<;>simp at hv<;>subst hv<;>rename_i hh
  ·rw[hh]at hr;exact⟨_,_,_,iN hr,rfl⟩
  ·rw[hh]at hr;obtain⟨o,cap,B,h,_⟩:=iz hr
   exact⟨_,_,_,h,rfl⟩
  ·rw[hh]at hr
   obtain⟨A,c,h',_,_,h⟩:=xk hr
   rcases h with h|⟨b,o,sz,vs,rfl,_⟩
   ·simp at h
   ·exact⟨_,_,_,h',rfl⟩
 refine⟨.bool (cR neg b),?_,.eE _ _ (.bool _)⟩
 obtain⟨A,n,c,h,rfl⟩:=rx
 have hq:(Op.equal t (.slice A n c) (.slice none 0 0)).run P w=.ok A.isNone w:=by
  unfold Op.equal
  rw[show Op.maxDepth=9999+1 from rfl,Op.equalIn]
  simp only[Sem.run_bind,run_underlying ht,Result.andThen_ok]
  cases A<;>rfl
 have hc:a.eval (.const (.slice none 0 0))=.slice none 0 0:=rfl
 simp only[execOp,ho,h,hc]
 cases neg<;>simp only[Bool.false_eq_true,if_false,if_true,Bool.not_true,Bool.not_false,eqGuard,binOp,cR,Sem.run_bind,hq,Result.andThen_ok,Sem.run_pure]
theorem V1 {x:Operand} {x':O} {t yt e:TypeId} {neg:Bool} {b:Bool} (E:dh P w D ι env a) (ho:o.op=.binOp (if neg then .neq else .eql) t x (.const (.pointer none)) yt) (ht:P.underlying t=some (.pointer e)) (hx:cO P x=some x')
  (hv:L4 (cZ env x')=some b):nP P a o w D ι (.bool (cR neg b)):=by
 have hr:=dM E hx
 have rx:∃A,a.eval x=.pointer A/\b=A.isNone:=by
  unfold L4 at hv
  split at hv<;>simp at hv<;>subst hv<;>rename_i hh
  ·rw[hh]at hr;exact⟨_,Ll hr,rfl⟩
  ·rw[hh]at hr;obtain⟨B,h,_⟩:=gW hr
   exact⟨_,h,rfl⟩
  ·rw[hh]at hr;obtain⟨_,_,_,h,_⟩:=kP hr
   exact⟨_,h,rfl⟩
 refine⟨.bool (cR neg b),?_,.eE _ _ (.bool _)⟩
 obtain⟨A,h,rfl⟩:=rx
 have hq:(Op.equal t (.pointer A) (.pointer none)).run P w=.ok A.isNone w:=by
  unfold Op.equal
  rw[show Op.maxDepth=9999+1 from rfl,Op.equalIn]
  simp only[Sem.run_bind,run_underlying ht,Result.andThen_ok]
  cases A<;>rfl
 have hc:a.eval (.const (.pointer none))=.pointer none:=rfl
 simp only[execOp,ho,h,hc]
 cases neg<;>simp only[Bool.false_eq_true,if_false,if_true,Bool.not_true,Bool.not_false,eqGuard,binOp,cR,Sem.run_bind,hq,Result.andThen_ok,Sem.run_pure]
theorem Si {x:Operand} {x':O} {t yt:TypeId} {p r:Array TypeId} {va:Bool} {neg:Bool} {b:Bool} (E:dh P w D ι env a) (ho:o.op=.binOp (if neg then .neq else .eql) t x (.const .nilFunc) yt) (ht:P.underlying t=some (.func p r va)) (hx:cO P x=some x')
  (hv:cu (cZ env x')=some b):nP P a o w D ι (.bool (cR neg b)):=by
 have hr:=dM E hx
 have rx:a.eval x=.nilFunc/\b=true∨∃f c,a.eval x=.func f #[] c/\b=false:=by
  unfold cu at hv
  split at hv<;>simp at hv<;>subst hv<;>rename_i hh
  ·rw[hh]at hr;exact .inl ⟨xj hr,rfl⟩
  ·rw[hh]at hr;obtain⟨vs,g,h,_⟩:=s4 hr
   exact .inr ⟨_,_,h,rfl⟩
 refine⟨.bool (cR neg b),?_,.eE _ _ (.bool _)⟩
 have hc:a.eval (.const .nilFunc)=.nilFunc:=rfl
 rcases rx with⟨h,rfl⟩|⟨f,c,h,rfl⟩
 ·have hq:(Op.equal t .nilFunc .nilFunc).run P w=.ok true w:=by
   unfold Op.equal
   rw[show Op.maxDepth=9999+1 from rfl,Op.equalIn]
   simp only[Sem.run_bind,run_underlying ht,Result.andThen_ok]
   rfl
  simp only[execOp,ho,h,hc]
  cases neg<;>simp only[Bool.false_eq_true,if_false,if_true,Bool.not_true,Bool.not_false,eqGuard,binOp,cR,Sem.run_bind,hq,Result.andThen_ok,Sem.run_pure]
 ·have hq:(Op.equal t (.func f #[] c) .nilFunc).run P w=.ok false w:=by
   unfold Op.equal
   rw[show Op.maxDepth=9999+1 from rfl,Op.equalIn]
   simp only[Sem.run_bind,run_underlying ht,Result.andThen_ok]
   rfl
  simp only[execOp,ho,h,hc]
  cases neg<;>simp only[Bool.false_eq_true,if_false,if_true,Bool.not_true,Bool.not_false,eqGuard,binOp,cR,Sem.run_bind,hq,Result.andThen_ok,Sem.run_pure]
theorem V5 {x:Operand} {x':O} {t:TypeId} (E:dh P w D ι env a) (ho:o.op=.unOp .not t x) (hx:cO P x=some x') (hv:dr (cZ env x')=some v):nP P a o w D ι v:=by
 have hr:=dM E hx
 unfold dr at hv
 split at hv
 ·rename_i b hb
  simp at hv;subst hv
  rw[hb]at hr
  exact⟨_,by simp only[execOp,ho,fA hr];rfl,.eE _ _ (.bool _)⟩
 ·simp at hv
theorem V4 {x:Operand} {x':O} {t:TypeId} (E:dh P w D ι env a) (ho:o.op=.unOp .neg t x) (hx:cO P x=some x') (hv:dp (cZ env x')=some v):nP P a o w D ι v:=by
 have hr:=dM E hx
 unfold dp at hv
 split at hv
 ·rename_i k n hb
  simp at hv;subst hv
  rw[hb]at hr
  refine⟨_,by simp only[execOp,ho,dI hr];rfl,?_⟩
  rw[Int.zero_sub];exact .eE _ _ (.int _ _)
 ·simp at hv
theorem Sh {x:Operand} {x':O} {s d:TypeId} {k q:IntKind} (E:dh P w D ι env a) (ho:o.op=.convert s d x) (hs:P.underlying s=some (.int q)) (hd:P.underlying d=some (.int k)) (hx:cO P x=some x') (hv:bW k (cZ env x')=some v):nP P a o w D ι v:=by
 have hr:=dM E hx
 unfold bW at hv
 split at hv
 ·rename_i k' n hb
  simp at hv;subst hv
  rw[hb]at hr
  refine⟨.int k (k.wrap n),?_,.eE _ _ (.int _ _)⟩
  simp only[execOp,ho,dI hr,convert,Sem.run_bind,run_underlying hs,run_underlying hd,Result.andThen_ok,Conv.intToInt,Sem.run_pure]
 ·simp at hv
theorem OR {x:Operand} {x':O} {s:TypeId} {i:Nat} {fs:Array Field} {f:Field} {m:Nat} (E:dh P w D ι env a) (ho:o.op=.fieldAddr s x i) (hs:P.underlying s=some (.struct fs)) (hf:fs[i]? =some f) (hm:ej P f.type=some (m+1)) (hx:cO P x=some x')
  (hv:Fx f.offset (cZ env x')=some v):nP P a o w D ι v:=by
 have hr:=dM E hx
 have go:∀b oo,a.eval x=.pointer (some ⟨b,oo,none⟩)->(execOp a.eval o).run P w=.ok (.value (.pointer (some ⟨b,oo+f.offset,none⟩))) w:=fun b oo h=>by
  simp only[execOp,ho,h,Instr.fieldAt,Sem.run_bind,run_underlying hs,Result.andThen_ok,hf,Instr.sureAddr,Sem.run_pure,fieldPlace,run_sizeOf hm,Nat.add_eq_zero_iff,Nat.one_ne_zero,and_false,if_false,Addr.add]
  split
  ·rename_i h0;simp[h0]
  ·rfl
 unfold Fx at hv
 split at hv
 ·rename_i jR i' oo hb
  simp at hv;subst hv
  rw[hb]at hr
  obtain⟨B,h,hB,hk⟩:=gW hr
  refine⟨_,go _ _ h,?_⟩
  rw[Nat.add_assoc]
  exact .ptr _ _ _ _ hB hk
 ·rename_i cs hb
  simp at hv;subst hv
  rw[hb]at hr
  obtain⟨b,oo,vs,h,h1,h2,h3,h4⟩:=kP hr
  refine⟨_,go _ _ h,.eE _ _ (.fe _ _ _ (fun j=>vs (f.offset+j)) h1 (fun a ha=>h2 a (List.mem_of_mem_drop ha)) (fun j hj=>?_) (fun j a ha=>h4 _ _ (by simpa using ha)))⟩
  rw[Nat.add_assoc]
  exact h3 _ (by simp at hj;omega)
 ·simp at hv
theorem OS {x:Operand} {x':O} {s:TypeId} {i n:Nat} {ag:Bool} {fs:Array Field} {f:Field} (E:dh P w D ι env a) (ho:o.op=.field s x i) (hs:P.underlying s=some (.struct fs)) (hf:fs[i]? =some f) (tM:lY P f.type=some ag) (hm:ej P f.type=some n) (hx:cO P x=some x')
  (hv:bh ag f.offset n (cZ env x')=some v):nP P a o w D ι v:=by
 have hr:=dM E hx
 unfold bh at hv
 split at hv
 ·rename_i cs hb
  split at hv
  ·rename_i hl
   rw[hb]at hr
   obtain⟨vs,g,h,n1,fl,f1,r1⟩:=iy hr
   unfold part at hv
   cases ag with
   |true=>
    simp only[if_true]at hv
    split at hv
    ·simp at hv;subst hv
     refine⟨.agg (vs.extract f.offset (f.offset+n)),?_,.agg _ _ (fun j=>g (f.offset+j)) (by simp[n1];omega) (fun a ha=>fl a (List.mem_of_mem_drop (List.mem_of_mem_take ha))) (fun j hj=>?_) (fun j a ha=>?_)⟩
     ·simp only[execOp,ho,h,Instr.field,Sem.run_bind,run_underlying hs,Result.andThen_ok,hf,asAgg,Sem.run_pure,pF tM hm]
     ·simp at hj
      rw[Array.getElem?_extract,if_pos ab];exact f1 _ ab
     ·rw[List.getElem?_take]at ha
      split at ha
      ·exact r1 _ _ (by simpa using ha)
      ·simp at ha
    ·simp at hv
   |false=>
    simp only[Bool.false_eq_true,if_false]at hv
    have nO:cs[f.offset]? =some v:=by simpa[List.head?_drop]using hv
    have eJ:=(List.getElem?_eq_some_iff.1 nO).1
    exact⟨g f.offset,by simp only[execOp,ho,h,Instr.field,Sem.run_bind,run_underlying hs,Result.andThen_ok,hf,asAgg,Sem.run_pure,mm tM (f1 _ eJ)],r1 _ _ nO⟩
  ·simp at hv
 ·simp at hv
theorem V6 {left:Bool} {x y:Operand} {x' y':O} {t yt:TypeId} (E:dh P w D ι env a) (ho:o.op=.binOp (if left then .shl else .shr) t x y yt) (hx:cO P x=some x') (hy:cO P y=some y') (hv:eO left (cZ env x') (cZ env y')=some v):nP P a o w D ι v:=by
 unfold eO at hv
 split at hv
 ·rename_i k n k' m hb sH
  split at hv
  ·simp at hv
  ·rename_i hm
   simp at hv;subst hv
   have h1:=dI (hb▸dM E hx)
   have h2:=dI (sH▸dM E hy)
   refine⟨_,?_,.eE _ _ (.int _ _)⟩
   simp only[execOp,ho,h1,h2]
   cases left<;>simp only[Bool.false_eq_true,if_false,if_true,eqGuard,Bool.not_true,Bool.not_false,binOp,Op.shift,hm,Sem.run_bind,Sem.run_pure,Result.andThen_ok]<;>rfl
 ·simp at hv
end
end Go.Proofs.YtalkncaokeaifaaGreatDoor.V

namespace Go.Proofs.YtalkncaokeaifaaGreatDoor.V
open Go.RowKit
variable {P:Program} {w w':World} {D D':Nat->Prop} {ι ι':Names}
theorem jX (b o j:Nat):(⟨b,o,none⟩:Addr).add j=⟨b,o+j,none⟩:=by unfold Addr.add;split<;>simp_all
section
variable {g:Rows} {hs:Nat} {env:Env} {a:Act} {o:Oper} {id:Id} {v:AV}
theorem jr {t:TypeId} {ag:Bool} {n b oo:Nat} {cs:List AV} {v:AV} {f:Nat->Value} (tM:lY P t=some ag) (hn:ej P t=some n) (hp:part ag n cs=some v) (fl:∀a∈cs,a.cell=true)
  (hc:∀j,j<cs.length->w.cell? ⟨b,oo+j,none⟩=some (f j)) (hr:∀j a,cs[j]? =some a->dE P w D ι a (f j)):∃u,(loadVar t ⟨b,oo,none⟩).run P w=.ok u w/\dE P w D ι v u:=by
 unfold part at hp
 cases ag with
 |true=>
  simp only[if_true]at hp
  split at hp
  ·rename_i hl
   simp at hp;subst hp
   refine⟨.agg ((List.range n).map f).toArray,?_,.agg _ _ f (by simp;omega) (fun a ha=>fl a (List.mem_of_mem_take ha)) (fun j hj=>?_) (fun j a ha=>?_)⟩
   ·simp only[loadVar,Sem.run_bind,s5 tM,Result.andThen_ok,if_true,run_sizeOf hn,Sem.run_pure]
    rw[run_loadCells w _ n f (fun j hj=>by rw[jX];exact hc j ab)]
    rfl
   ·simp at hj
    have:j<n:=ab
    simp[this]
   ·rw[List.getElem?_take]at ha
    split at ha
    ·exact hr _ _ ha
    ·simp at ha
  ·simp at hp
 |false=>
  simp only[Bool.false_eq_true,if_false]at hp
  cases cs with
  |nil=>simp at hp
  |cons c r=>
   simp at hp;subst hp
   refine⟨f 0,?_,hr 0 _ rfl⟩
   simp only[loadVar,Sem.run_bind,s5 tM,Result.andThen_ok,Bool.false_eq_true,if_false]
   have:=hc 0 (by simp)
   simp at this
   rw[run_load,this]
theorem Ly {S:fZ P hs D ι g w} {i:Nat} {cs:List AV} (h:rowAt g id i=some cs) (hk:∀B,ι id=some B->B.k=none):∃B r,g id=some r/\ι id=some B/\jO P w D ι B r/\r.rows[i]? =some cs/\(∀a∈cs,a.cell=true)/\∃f:Nat->Value,∀j,j<cs.length->w.cell? ⟨B.b,i*B.sz+j,none⟩=some (f j)/\∀a,cs[j]? =some a->dE P w D ι a (f j):=by
 unfold rowAt at h
 simp only[Option.bind_eq_some_iff]at h
 obtain⟨r,hr,hi⟩:=h
 obtain⟨B,hB,R,_,_⟩:=S.row id r hr
 replace R:=R.row (hk B hB)
 refine⟨B,r,hr,hB,R,hi,R.flat cs (List.mem_of_getElem? hi),fun j=>(w.cell? ⟨B.b,i*B.sz+j,none⟩).getD undef,fun j hj=>?_⟩
 obtain⟨u,hu,yk⟩:=R.at_ i j cs _ hi (List.getElem?_eq_getElem hj)
 rw[R.sz,hu]
 refine⟨by simp only[hu,Option.getD_some],fun a ha=>?_⟩
 rw[List.getElem?_eq_getElem hj]at ha
 injection ha with ha
 subst ha
 simpa only[hu,Option.getD_some]using yk
theorem Sr {x:Operand} {x':O} {t:TypeId} {ag:Bool} {n:Nat} (S:fZ P hs D ι g w) (E:dh P w D ι env a) (ho:o.op=.load t x) (tM:lY P t=some ag) (hn:ej P t=some n) (hx:cO P x=some x') (hv:ld g ag n (cZ env x')=some v):nP P a o w D ι v:=by
 have hr:=dM E hx
 have go:∀b oo u,a.eval x=.pointer (some ⟨b,oo,none⟩)->(loadVar t ⟨b,oo,none⟩).run P w=.ok u w->(execOp a.eval o).run P w=.ok (.value u) w:=fun b oo u h h2=>by
  simp only[execOp,ho,h,Instr.loadAt,Instr.sureAddr,Sem.run_bind,Sem.run_pure,Result.andThen_ok,h2]
 unfold ld at hv
 split at hv
 ·rename_i jR i' oo hb
  rw[hb]at hr
  obtain⟨B,h,hB,hk⟩:=gW hr
  simp only[Option.bind_eq_some_iff]at hv
  obtain⟨cs,dW,hp⟩:=hv
  obtain⟨B',r,Mr,ef,R,hi,fl,f,hf⟩:=Ly (S:=S) dW (fun B2 h2=>by rw[hB]at h2;injection h2 with h2;subst h2;exact hk)
  rw[hB]at ef;injection ef with ef;subst ef
  obtain⟨u,h1,h2⟩:=jr (w:=w) (b:=B.b) (oo:=i'*B.sz+oo) (f:=fun j=>f (oo+j)) tM hn hp (fun a ha=>fl a (List.mem_of_mem_drop ha)) (fun j hj=>by
   rw[Nat.add_assoc];exact(hf _ (by simp at hj;omega)).1) (fun j a ha=>by
   simp at ha;exact(hf _ ((List.getElem?_eq_some_iff.1 ha).1)).2 _ ha)
  exact⟨u,go _ _ _ h h1,h2⟩
 ·rename_i cs hb
  rw[hb]at hr
  obtain⟨b,oo,vs,h,h1,h2,h3,h4⟩:=kP hr
  obtain⟨u,k1,k2⟩:=jr (w:=w) (b:=b) (oo:=oo) (f:=vs) tM hn hv h2 h3 (fun j a ha=>.eE _ _ (h4 j a ha))
  exact⟨u,go _ _ _ h k1,k2⟩
 ·simp at hv
theorem Ox (S:fZ P hs D ι g w) {id:Id} {i k t:Nat} {s:ByteArray} (h:rowAt g id i=some [.err k t s]):∃u,dE P w D ι (.err k t s) u:=by
 unfold rowAt at h
 simp only[Option.bind_eq_some_iff]at h
 obtain⟨r,hr,hi⟩:=h
 obtain⟨B,hB,R,_⟩:=S.row id r hr
 cases hk:B.k with
 |none=>
  obtain⟨u,_,h2⟩:=(R.row hk).at_ i 0 _ _ hi rfl
  exact⟨u,h2⟩
 |some m=>
  cases m with
  |map m=>
   obtain⟨_,es,c,h3,h4,⟨h5,_⟩,h6⟩:=R.map m hk
   obtain⟨e,kv,vv,_,_,q3,_,q5⟩:=h6 i _ hi
   have h7:=h5 _ (List.mem_of_getElem? hi)
   have h8:m.ks=0:=by simp at h7;omega
   rw[h8]at q3
   simp at q3
   subst q3
   exact⟨_,q5⟩
  |chan c=>
   obtain⟨_,buf,s',q,h3,h4,h5⟩:=R.chan c hk
   obtain⟨x,u,q1,_,q3⟩:=h5 i _ hi
   injection q1 with q1
   subst q1
   exact⟨u,q3⟩
theorem OU {t:TypeId} {k:Nat} (S:fZ P hs D ι g w) (ho:o.op=.load t (.global k)) (hn:ej P t=some 1) (tM:lY P t=some false) (hv:eL g k=some v):nP P a o w D ι v:=by
 unfold eL at hv
 simp only[Option.bind_eq_some_iff]at hv
 obtain⟨cs,dW,hv⟩:=hv
 split at hv
 ·rename_i j t1 s
  split at hv
  ·rename_i hj
   subst hj
   injection hv with hv
   subst hv
   obtain⟨u,hu⟩:=Ox S dW
   obtain⟨_,_,_,pq,_,hc,_⟩:=pD hu
   obtain⟨u',k1,k2⟩:=jr (w:=w) (b:=j) (oo:=0) (f:=fun _=>u) tM hn (show part false 1 [.err j t1 s]=some (.err j t1 s)from rfl) (fun a ha=>by simp at ha;subst ha;rfl) (fun i hi=>by
    have:i=0:=by simp at hi;omega
    subst this;exact hc) (fun i x hx=>by
    have hi:=(List.getElem?_eq_some_iff.1 hx).1
    have:i=0:=by simp at hi;omega
    subst this
    simp at hx
    subst hx
    exact hu)
   exact⟨u',by simp only[execOp,ho,Instr.loadAt,Instr.sureAddr,Act.eval,Sem.run_bind,Sem.run_pure,Result.andThen_ok,k1],k2⟩
  ·simp at hv
 ·simp at hv
theorem VZ {x:Operand} {x':O} (E:dh P w D ι env a) (ho:o.op=.nilCheck x) (hx:cO P x=some x') (hv:dm (cZ env x')=some v):nP P a o w D ι v:=by
 have hr:=dM E hx
 unfold dm at hv
 split at hv
 ·rename_i jR i' oo hb
  simp at hv;subst hv
  rw[hb]at hr
  obtain⟨B,h,hB,hk⟩:=gW hr
  exact⟨_,by simp only[execOp,ho,h];rfl,.ptr _ _ _ _ hB hk⟩
 ·rename_i cs hb
  simp at hv;subst hv
  rw[hb]at hr
  obtain⟨b,oo,vs,h,_⟩:=kP hr
  exact⟨_,by simp only[execOp,ho,h];rfl,h▸hr⟩
 ·simp at hv
theorem OV {x i:Operand} {x' i':O} {t e:TypeId} {m:Nat} (S:fZ P hs D ι g w) (E:dh P w D ι env a) (ho:o.op=.indexAddr t x i) (ht:P.underlying t=some (.slice e)) (hm:ej P e=some (m+1)) (hx:cO P x=some x') (hi:cO P i=some i')
  (hv:bj g (m+1) (cZ env x') (cZ env i')=some v):nP P a o w D ι v:=by
 have hr:=dM E hx
 have Ew:=dM E hi
 have go:∀b oo n c k (q:Int),a.eval x=.slice (some ⟨b,oo,none⟩) n c->a.eval i=.int k q->0<=q->q<n->(execOp a.eval o).run P w=.ok (.value (.pointer (some ⟨b,oo+q.toNat*(m+1),none⟩))) w:=fun b oo n c k q h h2 h3 h4=>by
  simp only[execOp,ho,h,h2,Instr.indexAt,asIntOf,Sem.run_bind,Sem.run_pure,run_underlying ht,Result.andThen_ok,h3,h4,and_self,if_true,run_sizeOf hm,jX]
 unfold bj at hv
 split at hv
 ·rename_i rows k q hb sH
  split at hv
  ·rename_i hq
   simp only[Option.bind_eq_some_iff]at hv
   obtain⟨cs,dW,hv⟩:=hv
   split at hv
   ·rename_i hlen
    simp at hv;subst hv
    rw[hb]at hr;rw[sH]at Ew
    have eJ:=(List.getElem?_eq_some_iff.1 dW).1
    obtain⟨A,c,h,h1,h2,h3⟩:=xk hr
    rcases h3 with h3|⟨b,oo,sz,vs,rfl,hD,hl,fl,hc,hi⟩
    ·subst h3;simp at dW
    have fc:sz=m+1:=by rw[<-hlen,hl cs (List.mem_of_getElem? dW)]
    refine⟨_,go b oo _ _ k q h (dI Ew) hq ab,.eE _ _ (.fe cs b _ (vs q.toNat) hD (fl cs (List.mem_of_getElem? dW)) (fun j hj=>?_) (fun j a ha=>hi _ _ _ _ dW ha))⟩
    have:=hc q.toNat j eJ (by rw[<-hl cs (List.mem_of_getElem? dW)];exact hj)
    rw[fc]at this
    rw[Nat.add_assoc];exact this
   ·simp at hv
  ·simp at hv
 ·rename_i jR off len k q hb sH
  split at hv
  ·rename_i hq
   simp only[Option.bind_eq_some_iff]at hv
   obtain⟨r,Mr,hv⟩:=hv
   split at hv
   ·rename_i za
    simp at hv;subst hv
    rw[hb]at hr;rw[sH]at Ew
    obtain⟨oo,cap,B,h,hB,h1,h2,h3,h4,hk⟩:=iz hr
    obtain⟨B',ef,R,_,_⟩:=S.row _ _ Mr
    rw[hB]at ef;injection ef with ef;subst ef
    replace R:=R.row hk
    have fc:B.sz=m+1:=R.sz.trans za
    refine⟨_,go _ _ _ _ k q h (dI Ew) hq.1 hq.2,?_⟩
    have Bo:oo=off*B.sz:=by rcases h2 with h2|h2<;>omega
    have:oo+q.toNat*(m+1)=(off+q.toNat)*B.sz+0:=by rw[Bo,<-fc,Nat.add_mul];rfl
    rw[this]
    exact .ptr _ _ _ _ hB hk
   ·simp at hv
  ·simp at hv
 ·simp at hv
theorem Sk {x i:Operand} {x' i':O} {t e:TypeId} {m len:Nat} (E:dh P w D ι env a) (ho:o.op=.indexAddr t x i) (ht:P.underlying t=some (.array len e)) (hm:ej P e=some (m+1)) (hx:cO P x=some x') (hi:cO P i=some i')
  (hv:bZ len (m+1) (cZ env x') (cZ env i')=some v):nP P a o w D ι v:=by
 have hr:=dM E hx
 have Ew:=dM E hi
 have go:∀b oo k (q:Int),a.eval x=.pointer (some ⟨b,oo,none⟩)->a.eval i=.int k q->0<=q->q<len->(execOp a.eval o).run P w=.ok (.value (.pointer (some ⟨b,oo+q.toNat*(m+1),none⟩))) w:=fun b oo k q h h2 h3 h4=>by
  simp only[execOp,ho,h,h2,Instr.indexAt,asIntOf,Sem.run_bind,Sem.run_pure,run_underlying ht,Instr.sureAddr,Result.andThen_ok,h3,h4,and_self,if_true,run_sizeOf hm,jX]
 unfold bZ at hv
 split at hv
 ·rename_i jR r oo k q hb sH
  split at hv
  ·rename_i hq
   simp at hv;subst hv
   rw[hb]at hr;rw[sH]at Ew
   obtain⟨B,h,hB,hk⟩:=gW hr
   refine⟨_,go _ _ k q h (dI Ew) hq.1 hq.2,?_⟩
   rw[Nat.add_assoc]
   exact .ptr _ _ _ _ hB hk
  ·simp at hv
 ·rename_i cs k q hb sH
  split at hv
  ·rename_i hq
   simp at hv;subst hv
   rw[hb]at hr;rw[sH]at Ew
   obtain⟨b,oo,vs,h,h1,h2,h3,h4⟩:=kP hr
   refine⟨_,go _ _ k q h (dI Ew) hq.1 hq.2,.eE _ _ (.fe _ _ _ (fun j=>vs (q.toNat*(m+1)+j)) h1 (fun a ha=>h2 a (List.mem_of_mem_drop ha)) (fun j hj=>?_) (fun j a ha=>h4 _ _ (by simpa using ha)))⟩
   rw[Nat.add_assoc]
   exact h3 _ (by simp at hj;omega)
  ·simp at hv
 ·simp at hv
theorem Sn {x i:Operand} {x' i':O} {t:TypeId} (E:dh P w D ι env a) (ho:o.op=.index t x i) (ht:P.underlying t=some .string) (hx:cO P x=some x') (hi:cO P i=some i')
  (hv:ck (cZ env x') (cZ env i')=some v):nP P a o w D ι v:=by
 have hr:=dM E hx
 have Ew:=dM E hi
 unfold ck at hv
 split at hv
 ·rename_i s k q hb sH
  split at hv
  ·rename_i hq
   simp only[Option.map_eq_some_iff]at hv
   obtain⟨c,hc,rfl⟩:=hv
   rw[hb]at hr;rw[sH]at Ew
   refine⟨_,?_,.eE _ _ (.int _ _)⟩
   simp only[execOp,ho,fU hr,dI Ew,Instr.index,asIntOf,Sem.run_bind,Sem.run_pure,run_underlying ht,Result.andThen_ok,hq,if_true,hc]
  ·simp at hv
 ·simp at hv
theorem Sm {x i:Operand} {x' i':O} {t e:TypeId} {ag:Bool} {len n:Nat} (E:dh P w D ι env a) (ho:o.op=.index t x i) (ht:P.underlying t=some (.array len e)) (tM:lY P e=some ag) (hn:ej P e=some n) (hx:cO P x=some x') (hi:cO P i=some i')
  (hv:cj ag len n (cZ env x') (cZ env i')=some v):nP P a o w D ι v:=by
 have hr:=dM E hx
 have Ew:=dM E hi
 unfold cj at hv
 split at hv
 ·rename_i cs k q hb sH
  split at hv
  ·rename_i hq
   rw[hb]at hr;rw[sH]at Ew
   obtain⟨vs,f,h,n1,fl,f1,r1⟩:=iy hr
   have go:∀u,(Go.part e vs (q.toNat*n)).run P w=.ok u w->(execOp a.eval o).run P w=.ok (.value u) w:=fun u hu=>by
    simp only[execOp,ho,h,dI Ew,Instr.index,asIntOf,Sem.run_bind,Sem.run_pure,run_underlying ht,Result.andThen_ok,hq,and_self,if_true,run_sizeOf hn,hu]
   unfold part at hv
   cases ag with
   |true=>
    simp only[if_true]at hv
    split at hv
    ·rename_i hl
     simp at hv;subst hv
     simp only[List.length_drop]at hl
     by_cases Co:n=0
     ·subst Co
      refine⟨_,go _ (pF tM hn),.agg _ _ (fun _=>undef) (by simp) (fun a ha=>by simp at ha) (fun j hj=>by simp at hj) (fun j a ha=>by simp at ha)⟩
     refine⟨_,go _ (pF tM hn),.agg _ _ (fun j=>f (q.toNat*n+j)) (by simp[n1];omega) (fun a ha=>fl a (List.mem_of_mem_drop (List.mem_of_mem_take ha))) (fun j hj=>?_) (fun j a ha=>?_)⟩
     ·simp at hj
      rw[Array.getElem?_extract,if_pos ab];exact f1 _ ab
     ·rw[List.getElem?_take]at ha
      split at ha
      ·exact r1 _ _ (by simpa using ha)
      ·simp at ha
    ·simp at hv
   |false=>
    simp only[Bool.false_eq_true,if_false]at hv
    have nO:cs[q.toNat*n]? =some v:=by simpa[List.head?_drop]using hv
    have eJ:=(List.getElem?_eq_some_iff.1 nO).1
    exact⟨_,go _ (mm tM (f1 _ eJ)),r1 _ _ nO⟩
  ·simp at hv
 ·simp at hv
theorem Iv {x:Operand} {x':O} {i:Nat} (E:dh P w D ι env a) (ho:o.op=.extract x i) (hx:cO P x=some x') (hv:ar i (cZ env x')=some v):nP P a o w D ι v:=by
 have hr:=dM E hx
 unfold ar at hv
 split at hv
 ·rename_i vs hb
  rw[hb]at hr
  obtain⟨us,f,h,h1,h2,h3⟩:=uQ hr
  have eJ:=(List.getElem?_eq_some_iff.1 hv).1
  exact⟨_,by simp only[execOp,ho,h,Instr.extract,h2 _ eJ];rfl,h3 _ _ hv⟩
 ·simp at hv
theorem V3 {x:Operand} {x':O} {t:TypeId} {e:TypeId} {n:Nat} (E:dh P w D ι env a) (ho:o.op=.call {callee:=.builtin .len,args:= #[x],argTypes:= #[t]}) (ht:P.underlying t=some (.slice e)) (hx:cO P x=some x') (hv:dn (cZ env x')=some n):nP P a o w D ι (.int .i64 n):=by
 have hr:=dM E hx
 have go:∀A c,a.eval x=.slice A n c->(execOp a.eval o).run P w=.ok (.value (.int .i64 n)) w:=fun A c h=>by
  simp only[execOp,ho,resolve,Sem.run_bind,Sem.run_pure,Result.andThen_ok,invoke,builtin,Array.map,h]
  simp[Builtin.len_,run_underlying ht,goInt,h]
 refine⟨.int .i64 n,?_,.eE _ _ (.int _ _)⟩
 unfold dn at hv
 split at hv<;>simp at hv<;>subst hv<;>rename_i hb<;>rw[hb]at hr
 ·exact go _ _ (iN hr)
 ·obtain⟨A,c,h,_⟩:=xk hr;exact go _ _ h
 ·obtain⟨oo,cap,B,h,_⟩:=iz hr;exact go _ _ h
theorem Sq {x:Operand} {x':O} {t:TypeId} (E:dh P w D ι env a) (ho:o.op=.call {callee:=.builtin .len,args:= #[x],argTypes:= #[t]}) (ht:P.underlying t=some .string) (hx:cO P x=some x') (hv:cq (cZ env x')=some v):nP P a o w D ι v:=by
 have hr:=dM E hx
 unfold cq at hv
 split at hv
 ·rename_i s hb
  simp at hv;subst hv
  rw[hb]at hr
  have h:=fU hr
  refine⟨_,?_,.eE _ _ (.int _ _)⟩
  simp only[execOp,ho,resolve,Sem.run_bind,Sem.run_pure,Result.andThen_ok,invoke,builtin,Array.map,h]
  simp[Builtin.len_,run_underlying ht,goInt,h]
 ·simp at hv
theorem mX {isS:Bool} {len cap h l:Nat} {lo hi:Option Operand} {PJ qD:Option O} (E:dh P w D ι env a) (k6:qP P lo=some PJ) (Hr:qP P hi=some qD) (hh:da len (qD.map (cZ env))=some h) (hl:db h (PJ.map (cZ env))=some l) (hc:len<=cap):
  (Instr.sliceBounds isS len cap (lo.map a.eval) (hi.map a.eval) none).run P w=.ok (l,h,cap) w/\l<=h/\h<=len:=by
 have bound:∀(x:Operand) (y:O) (k:IntKind) (n:Int) (m:Nat) (c:BoundsCode),cO P x=some y->cZ env y=.int k n->0<=n->n<=m->(Instr.sliceBound (a.eval x) m c).run P w=.ok n.toNat w:=fun x y k n m c hx hy h0 h1=>by
  have hr:=dM E hx
  rw[hy]at hr
  simp only[Instr.sliceBound,dI hr,asIntOf,Sem.run_bind,Sem.run_pure,Result.andThen_ok,h0,h1,and_self,if_true]
 have H:h<=len/\((hi=none/\h=len)∨∃x,hi=some x/\∀c,(Instr.sliceBound (a.eval x) cap c).run P w=.ok h w):=by
  cases hi with
  |none=>
   simp[qP]at Hr;subst Hr
   simp[da]at hh;subst hh
   exact⟨Nat.le_refl _,.inl ⟨rfl,rfl⟩⟩
  |some x=>
   simp only[qP,Option.map_eq_some_iff]at Hr
   obtain⟨y,hy,rfl⟩:=Hr
   simp only[Option.map_some,da]at hh
   split at hh
   ·rename_i e;cases e
   ·rename_i k n e
    injection e with e
    split at hh
    ·rename_i hn
     simp at hh;subst hh
     exact⟨ab,.inr ⟨x,rfl,fun c=>bound x y k n _ _ hy e hn.1 ab⟩⟩
    ·simp at hh
   ·simp at hh
 have L:l<=h/\((lo=none/\l=0)∨∃x,lo=some x/\∀c,(Instr.sliceBound (a.eval x) h c).run P w=.ok l w):=by
  cases lo with
  |none=>
   simp[qP]at k6;subst k6
   simp[db]at hl;subst hl
   exact⟨Nat.zero_le _,.inl ⟨rfl,rfl⟩⟩
  |some x=>
   simp only[qP,Option.map_eq_some_iff]at k6
   obtain⟨y,hy,rfl⟩:=k6
   simp only[Option.map_some,db]at hl
   split at hl
   ·rename_i e;cases e
   ·rename_i k n e
    injection e with e
    split at hl
    ·rename_i hn
     simp at hl;subst hl
     exact⟨ab,.inr ⟨x,rfl,fun c=>bound x y k n h _ hy e hn.1 hn.2⟩⟩
    ·simp at hl
   ·simp at hl
 refine⟨?_,L.1,H.1⟩
 unfold Instr.sliceBounds
 rcases H.2 with⟨rfl,rfl⟩|⟨x,rfl,hx⟩<;>rcases L.2 with⟨rfl,rfl⟩|⟨y,rfl,hy⟩<;>
  simp only[Option.map_none,Option.map_some,Sem.run_bind,Sem.run_pure,Result.andThen_ok, *]
theorem OX {x:Operand} {x':O} {lo hi:Option Operand} {PJ qD:Option O} {t e:TypeId} {m:Nat} (S:fZ P hs D ι g w) (E:dh P w D ι env a) (ho:o.op=.slice t x lo hi none) (ht:P.underlying t=some (.slice e)) (hm:ej P e=some m) (hx:cO P x=some x') (k6:qP P lo=some PJ) (Hr:qP P hi=some qD)
  (hv:bp g m (cZ env x') (PJ.map (cZ env)) (qD.map (cZ env))=some v):nP P a o w D ι v:=by
 have hr:=dM E hx
 have go:∀A len cap l h,a.eval x=.slice A len cap->(Instr.sliceBounds true len cap (lo.map a.eval) (hi.map a.eval) none).run P w=.ok (l,h,cap) w->(execOp a.eval o).run P w=.ok (.value (.slice (if cap=l then A else A.map (·.add (l*m))) (h-l) (cap-l))) w:=fun A len cap l h h1 h2=>by
  simp only[execOp,ho,h1,Instr.sliceAt,Instr.slice,Sem.run_bind,Sem.run_pure,run_underlying ht,Result.andThen_ok,Option.map_none,h2,run_sizeOf hm]
 unfold bp at hv
 split at hv
 ·rename_i hb
  rw[hb]at hr
  simp only[Option.bind_eq_some_iff,Option.map_eq_some_iff]at hv
  obtain⟨h,hh,l,hl,rfl⟩:=hv
  obtain⟨q,q1,q2⟩:=mX (w:=w) (isS:=true) (cap:=0) E k6 Hr hh hl (Nat.le_refl _)
  have h0:h=0:=ab
  have l0:l=0:=ab
  subst h0;subst l0
  refine⟨_,go _ _ _ _ _ (iN hr) q,?_⟩
  simp;exact .eE _ _ .bP
 ·rename_i rows hb
  rw[hb]at hr
  simp only[Option.bind_eq_some_iff,Option.map_eq_some_iff]at hv
  obtain⟨h,hh,l,hl,hv⟩:=hv
  split at hv
  ·rename_i eI
   simp at hv;subst hv
   obtain⟨A,c,he,c1,c2,h3⟩:=xk hr
   obtain⟨q,q1,q2⟩:=mX (w:=w) (isS:=true) (cap:=c) E k6 Hr hh hl c1
   refine⟨_,go _ _ _ _ _ he q,.eE _ _ ?_⟩
   have hlen:((rows.drop l).take (h-l)).length=h-l:=by simp;omega
   by_cases hz:h-l=0
   ·have:(rows.drop l).take (h-l)=[]:=by rw[hz];simp
    rw[this,hz]
    exact .Bd _ _ ab
   ·rcases h3 with h3|⟨b,oo,sz,vs,rfl,hD,Q6,fl,hc,hi⟩
    ·subst h3;simp at q2;omega
    rw[if_neg ab]
    simp only[Option.map_some,jX]
    have Cn:sz=m:=by
     have eJ:l<rows.length:=ab
     have:=eI rows[l] (List.getElem_mem eJ)
     rw[<-this,Q6 _ (List.getElem_mem eJ)]
    subst Cn
    refine .sl _ b _ _ _ sz (fun i j=>vs (l+i) j) hlen ab ab hD (fun cs dW=>Q6 cs (List.mem_of_mem_drop (List.mem_of_mem_take dW))) (fun cs dW=>fl cs (List.mem_of_mem_drop (List.mem_of_mem_take dW))) (fun i j hi hj=>?_) (fun i j cs a dW ha=>?_)
    ·rw[<-hc (l+i) j ab hj,Nat.add_mul]
     congr 2;omega
    ·rw[List.getElem?_take]at dW
     split at dW
     ·exact hi _ _ _ _ (by simpa using dW) ha
     ·simp at dW
  ·simp at hv
 ·rename_i jR off len hb
  rw[hb]at hr
  simp only[Option.bind_eq_some_iff,Option.map_eq_some_iff]at hv
  obtain⟨r,Mr,h,hh,l,hl,hv⟩:=hv
  split at hv
  ·rename_i za
   simp at hv;subst hv
   obtain⟨oo,cap,B,he,hB,h1,h2,h3,h4,hk⟩:=iz hr
   obtain⟨B',ef,R,_,_⟩:=S.row _ _ Mr
   rw[hB]at ef;injection ef with ef;subst ef
   replace R:=R.row hk
   have fc:B.sz=m:=R.sz.trans za
   obtain⟨q,q1,q2⟩:=mX (w:=w) (isS:=true) (cap:=cap) E k6 Hr hh hl h1
   refine⟨_,go _ _ _ _ _ he q,?_⟩
   have e1:(off+l+(cap-l))*B.sz<=B.C:=by rw[show off+l+(cap-l)=off+cap by omega];exact h3
   by_cases nR:cap=l
   ·rw[if_pos nR]
    exact .own _ _ _ _ _ B hB hk ab (.inl ab) e1 ab
   ·rw[if_neg nR]
    simp only[Option.map_some,jX]
    have Bo:oo=off*B.sz:=by rcases h2 with h2|h2<;>omega
    exact .own _ _ _ _ _ B hB hk ab (.inr (by rw[Bo,fc,Nat.add_mul])) e1 ab
  ·simp at hv
 ·simp at hv
theorem Mj {x:Operand} {x':O} {lo hi:Option Operand} {PJ qD:Option O} {t:TypeId} (E:dh P w D ι env a) (ho:o.op=.slice t x lo hi none) (ht:P.underlying t=some .string) (hx:cO P x=some x') (k6:qP P lo=some PJ) (Hr:qP P hi=some qD)
  (hv:aI (cZ env x') (PJ.map (cZ env)) (qD.map (cZ env))=some v):nP P a o w D ι v:=by
 have hr:=dM E hx
 unfold aI at hv
 split at hv
 ·rename_i s hb
  rw[hb]at hr
  simp only[Option.bind_eq_some_iff,Option.map_eq_some_iff]at hv
  obtain⟨h,hh,l,hl,rfl⟩:=hv
  obtain⟨q,_,_⟩:=mX (w:=w) (isS:=false) E k6 Hr hh hl (Nat.le_refl _)
  refine⟨_,?_,.eE _ _ (.str _)⟩
  simp only[execOp,ho,fU hr,Instr.sliceAt,Instr.slice,Sem.run_bind,Sem.run_pure,run_underlying ht,Result.andThen_ok,Option.map_none,Option.isSome_none,Bool.false_eq_true,if_false,q]
 ·simp at hv
theorem E6 {xs:List Operand} {ys:List O} (E:dh P w D ι env a) (h:xs.mapM (cO P)=some ys):(xs.map a.eval).length=ys.length/\∀j y,ys[j]? =some y->dE P w D ι (cZ env y) ((xs.map a.eval).getD j undef):=by
 induction xs generalizing ys with
 |nil=>simp at h;subst h;simp
 |cons x r ih=>
  simp only[List.mapM_cons,Option.bind_eq_bind,Option.bind_eq_some_iff]at h
  obtain⟨c,hc,qT,dW,h⟩:=h
  simp at h;subst h
  obtain⟨h1,h2⟩:=ih dW
  refine⟨by simpa using h1,fun j d hd=>?_⟩
  cases j with
  |zero=>simp at hd ⊢;subst hd;exact dM E hc
  |succ j=>simp at hd ⊢;simpa using h2 j d hd
theorem Su {f:Nat} {first dG:Array Operand} {BR:List O} (E:dh P w D ι env a) (ho:o.op=.makeFunc (.func f) first dG) (hf:first= #[]) (hc:fY P f=true) (hx:dG.toList.mapM (cO P)=some BR):nP P a o w D ι (.fn f (BR.map (cZ env))):=by
 subst hf
 obtain⟨h1,h2⟩:=E6 E hx
 refine⟨.func (.func f) #[] (dG.map a.eval),by simp only[execOp,ho,Instr.makeFunc,Sem.run_bind,Sem.run_pure,Result.andThen_ok];simp,.fn _ _ _ (fun j=>(dG.toList.map a.eval).getD j undef) hc (by simpa using h1) (fun j hj=>?_) (fun j x SV=>?_)⟩
 ·simp at hj h1
  have:j<dG.size:=ab
  simp[this]
 ·simp only[List.getElem?_map,Option.map_eq_some_iff]at SV
  obtain⟨y,hy,rfl⟩:=SV
  exact h2 j y hy
theorem Sv {f:Nat} {first dG:Array Operand} {BR:List O} (E:dh P w D ι env a) (ho:o.op=.makeFunc (.func f) first dG) (hf:dG= #[]) (hc:fY P f=true) (hx:first.toList.mapM (cO P)=some BR):nP P a o w D ι (.tX f (BR.map (cZ env))):=by
 subst hf
 obtain⟨h1,h2⟩:=E6 E hx
 refine⟨.func (.func f) (first.map a.eval) #[],by simp only[execOp,ho,Instr.makeFunc,Sem.run_bind,Sem.run_pure,Result.andThen_ok];simp,.tX _ _ _ (fun j=>(first.toList.map a.eval).getD j undef) hc (by simpa using h1) (fun j hj=>?_) (fun j x SV=>?_)⟩
 ·simp at hj h1
  have:j<first.size:=ab
  simp[this]
 ·simp only[List.getElem?_map,Option.map_eq_some_iff]at SV
  obtain⟨y,hy,rfl⟩:=SV
  exact h2 j y hy
end
end Go.Proofs.YtalkncaokeaifaaGreatDoor.V

namespace Go.Proofs.YtalkncaokeaifaaGreatDoor.V
open Go.RowKit
variable {P:Program} {w w':World} {D D':Nat->Prop} {ι ι':Names}
def Mk (P:Program) (a:Act) (o:Oper) (w:World) (D:Nat->Prop) (ι:Names) (id:Id) (v:AV) (r:Row):Prop:=
 ∃u cells T,(execOp a.eval o).run P w=.ok (.value u) (w.alloc (.cells cells T))/\r.w=true/\r.rows.length*r.sz<=cells.size/\(∀cs∈r.rows,cs.length=r.sz)/\(∀cs∈r.rows,∀a∈cs,a.cell=true)/\
  (∀i j cs a,r.rows[i]? =some cs->cs[j]? =some a->∃x,cells[i*r.sz+j]? =some x/\dE P w D ι a x)/\∀ι':Names,ι' id=some ⟨w.heap.size,r.sz,cells.size,none⟩->dE P w D ι' v u
section
variable {g:Rows} {hs:Nat} {env:Env} {a:Act} {o:Oper} {id:Id} {v:AV}
theorem kL {vs:List Value} {cs:List K} (h:vs.mapM HD=some cs):fE P w D ι (cs.map K.av) vs.toArray:=by
 obtain⟨h1,h2⟩:=rI h
 refine⟨by simp[h1],fun j a ha=>?_⟩
 simp only[List.getElem?_map,Option.map_eq_some_iff]at ha
 obtain⟨c,hc,rfl⟩:=ha
 exact⟨c.val,by simpa using h2 j c hc,xh c⟩
theorem jL {t:TypeId} {z:List K} (h:jy P t=some z):∃i v,P.info? t=some i/\i.zero=some v/\v.cells.size=i.size/\v.cells.toList.mapM HD=some z/\z.length=i.size:=by
 unfold jy at h
 split at h
 ·rename_i i hi
  split at h
  ·rename_i v hv
   split at h
   ·rename_i hs
    exact⟨i,v,hi,hv,hs,h,by rw[(rI h).1];simpa using hs⟩
   ·simp at h
  ·simp at h
 ·simp at h
theorem Gr {cs:List AV} {cells:Array Value} (h:fE P w D ι cs cells):∀i j c a,[cs][i]? =some c->c[j]? =some a->∃x,cells[i*cs.length+j]? =some x/\dE P w D ι a x:=by
 intro i j c a hi hj
 cases i with
 |zero=>simp at hi;subst hi;simpa using h.2 j a hj
 |succ i=>simp at hi
theorem Ve {t:TypeId} {z:List K} (ho:o.op=.alloc t) (hz:jy P t=some z):Mk P a o w D ι id (.ptr id 0 0) ⟨true,z.length,[z.map K.av]⟩:=by
 obtain⟨i,v,hi,hv,hs,hm,hl⟩:=jL hz
 have hk:=kL (P:=P) (w:=w) (D:=D) (ι:=ι) hm
 refine⟨.pointer (some ⟨w.heap.size,0,none⟩),v.cells,t,?_,rfl,?_,?_,?_,?_,?_⟩
 ·simp only[execOp,ho,Instr.alloc,zeroValue,typeInfo,Sem.run_bind]
  simp[hi,hv,newVar,newRow]
 ·simp[hl,hs]
 ·intro cs dW;simp at dW;subst dW;simp
 ·intro cs dW x hx;simp at dW;subst dW
  obtain⟨c,_,rfl⟩:=List.mem_map.1 hx;exact c.mJ
 ·have:=Gr hk;simpa using this
 ·intro ι' hι
  have:=dE.ptr (P:=P) (w:=w) (D:=D) (ι:=ι') id 0 0 _ hι rfl
  simpa using this
theorem qx {x:AV} {u:Value} (h:dE P w D ι x u) (hc:x.cells.all AV.cell=true):fE P w D ι x.cells u.cells:=by
 obtain⟨h1,f,h2,h3⟩:=h.cells hc
 exact⟨h1,fun j a ha=>⟨f j,h2 j (List.getElem?_eq_some_iff.1 ha).1,h3 j a ha⟩⟩
theorem Vc {t:TypeId} {x:Operand} {x':O} {cs:List AV} (E:dh P w D ι env a) (ho:o.op=.box t x) (hx:cO P x=some x') (hb:bR (cZ env x')=some cs):Mk P a o w D ι id (.ptr id 0 0) ⟨true,cs.length,[cs]⟩:=by
 have hr:=dM E hx
 unfold bR at hb
 split at hb
 ·rename_i eI
  simp at hb;subst hb
  have hk:=qx hr eI
  refine⟨.pointer (some ⟨w.heap.size,0,none⟩),(a.eval x).cells,t,?_,rfl,?_,?_,?_,?_,?_⟩
  ·simp only[execOp,ho,Instr.box,Sem.run_bind]
   simp[newVar,newRow]
  ·simp[hk.1]
  ·intro cs dW;simp at dW;subst dW;rfl
  ·intro cs dW y hy;simp at dW;subst dW
   exact List.all_eq_true.1 eI y hy
  ·exact Gr hk
  ·intro ι' hι
   have:=dE.ptr (P:=P) (w:=w) (D:=D) (ι:=ι') id 0 0 _ hι rfl
   simpa using this
 ·simp at hb
theorem foldl_set:∀(vs:List Value) (n off:Nat) (cells:Array Value),off+n+vs.length<=cells.size->((vs.zipIdx n).foldl (fun cs (x:Value×Nat)=>cs.setIfInBounds (off+x.2) x.1) cells).size=cells.size/\
  ∀k,((vs.zipIdx n).foldl (fun cs (x:Value×Nat)=>cs.setIfInBounds (off+x.2) x.1) cells)[k]? =if off+n<=k/\k<off+n+vs.length then vs[k-(off+n)]? else cells[k]?
 |[],n,off,cells,_=>⟨rfl,fun k=>by simp;intro h1 h2;omega⟩
 |v::r,n,off,cells,h=>by
  simp only[List.length_cons]at h
  obtain⟨h1,h2⟩:=foldl_set r (n+1) off (cells.setIfInBounds (off+n) v) (by simp;omega)
  simp only[List.zipIdx_cons,List.foldl_cons]
  refine⟨by rw[h1];simp,fun k=>?_⟩
  rw[h2 k]
  simp only[List.length_cons]
  by_cases hk:k=off+n
  ·subst hk
   rw[if_neg ab,if_pos ab]
   simp[show off+n<cells.size by omega]
  ·by_cases rm:off+n<=k/\k<off+n+(r.length+1)
   ·rw[if_pos ab,if_pos rm]
    have:k-(off+n)=(k-(off+(n+1)))+1:=ab
    rw[this,List.getElem?_cons_succ]
   ·rw[if_neg ab,if_neg rm,Array.getElem?_setIfInBounds_ne ab]
theorem vP (place:Nat->Option (Nat×Nat)):∀(ps:List (Nat×Value)) (qs:List (Nat×Nat×AV)) (cells:Array Value) (cs res:List AV),fE P w D ι cs cells->(∀a∈cs,a.cell=true)->ps.length=qs.length->
  (∀(k:Nat) i u o' n x,ps[k]? =some (i,u)->qs[k]? =some (o',n,x)->place i=some (o',n)/\dE P w D ι x u)->bH cs qs=some res->∃jj,Instr.fill place cells ps=some jj/\fE P w D ι res jj/\(∀a∈res,a.cell=true)/\res.length=cs.length:=by
 intro ps
 induction ps with
 |nil=>
  intro qs cells cs res hR hf hl _ hv
  cases qs with
  |nil=>simp[bH]at hv;subst hv;exact⟨cells,rfl,hR,hf,rfl⟩
  |cons q r=>simp at hl
 |cons p ps ih=>
  intro qs cells cs res hR hf hl hp hv
  cases qs with
  |nil=>simp at hl
  |cons q qs=>
   obtain⟨i,u⟩:=p
   obtain⟨oo,n,x⟩:=q
   obtain⟨lp,hr⟩:=hp 0 i u oo n x rfl rfl
   unfold bH at hv
   split at hv
   ·rename_i hc
    obtain⟨c1,c2,c3⟩:=hc
    have hk:=qx hr c3
    have UW:u.cells.size=n:=by rw[hk.1,c1]
    have dW:cells.size=cs.length:=hR.1
    unfold Instr.fill
    simp only[lp]
    rw[if_neg (by rw[UW,dW];simp;omega)]
    obtain⟨s1,s2⟩:=foldl_set u.cells.toList 0 oo cells (by simp;omega)
    have e0:(u.cells.zipIdx.foldl (fun cs (x:Value×Nat)=>cs.setIfInBounds (oo+x.2) x.1) cells)=(u.cells.toList.zipIdx 0).foldl (fun cs (x:Value×Nat)=>cs.setIfInBounds (oo+x.2) x.1) cells:=by
     rw[<-Array.foldl_toList];simp
    have Br:=ih qs (u.cells.zipIdx.foldl (fun cs (x:Value×Nat)=>cs.setIfInBounds (oo+x.2) x.1) cells) (cs.take oo++x.cells++cs.drop (oo+n)) res ?_ ?_ (by simpa using hl) (fun k i u o' n x h1 h2=>hp (k+1) i u o' n x (by simpa using h1) (by simpa using h2)) hv
    ·obtain⟨jj,h1,h2,h3,h4⟩:=Br
     refine⟨jj,h1,h2,h3,?_⟩
     rw[h4];simp;omega
    ·rw[e0]
     refine⟨by rw[s1,dW];simp;omega,fun j a ha=>?_⟩
     rw[s2 j]
     simp only[Nat.add_zero,Array.length_toList]
     by_cases hj:oo<=j/\j<oo+u.cells.size
     ·rw[if_pos hj]
      rw[List.append_assoc,List.getElem?_append_right (by simp;omega),List.getElem?_append_left (by simp;omega)]at ha
      simp only[List.length_take]at ha
      rw[show min oo cs.length=oo by omega]at ha
      simpa using hk.2 _ _ ha
     ·rw[if_neg hj]
      by_cases Ut:j<oo
      ·rw[List.append_assoc,List.getElem?_append_left (by simp;omega),List.getElem?_take,if_pos Ut]at ha
       exact hR.2 _ _ ha
      ·rw[List.getElem?_append_right (by simp;omega)]at ha
       simp only[List.length_append,List.length_take,List.getElem?_drop]at ha
       rw[show oo+n+(j-(min oo cs.length+x.cells.length))=j by omega]at ha
       exact hR.2 _ _ ha
    ·intro b hb
     rcases List.mem_append.1 hb with hb|hb
     ·rcases List.mem_append.1 hb with hb|hb
      ·exact hf b (List.mem_of_mem_take hb)
      ·exact List.all_eq_true.1 c3 b hb
     ·exact hf b (List.mem_of_mem_drop hb)
   ·simp at hv
theorem ya {fs:List Field} (h:∀f∈fs,(P.info? f.type).isSome=true):∃places,fs.mapM (fun f=>(P.info? f.type).map fun i=>(f.offset,i.size))=some places/\∀(i:Nat) (f:Field) (n:Nat),fs[i]? =some f->ej P f.type=some n->places[i]? =some (f.offset,n):=by
 induction fs with
 |nil=>exact⟨[],rfl,fun i f n h=>by simp at h⟩
 |cons f r ih=>
  obtain⟨q,h1,h2⟩:=ih (fun x hx=>h x (List.mem_cons_of_mem _ hx))
  obtain⟨i,hi⟩:=Option.isSome_iff_exists.1 (h f (by simp))
  refine⟨(f.offset,i.size)::q,by simp[hi,h1],fun k x n hk hn=>?_⟩
  cases k with
  |zero=>simp at hk;subst hk;simp[ej,hi]at hn;subst hn;rfl
  |succ k=>simp at hk ⊢;exact h2 k x n hk hn
theorem qb {ps:List (Nat×Operand)} {l:List (Nat×O)} (E:dh P w D ι env a) (h:ps.mapM (fun(x:Nat×Operand)=>(cO P x.2).map (x.1,·))=some l):l.length=ps.length/\∀(k i:Nat) (y:O),l[k]? =some (i,y)->∃x,ps[k]? =some (i,x)/\cO P x=some y:=by
 induction ps generalizing l with
 |nil=>simp at h;subst h;simp
 |cons p r ih=>
  simp only[List.mapM_cons,Option.bind_eq_bind,Option.bind_eq_some_iff]at h
  obtain⟨c,hc,qT,dW,h⟩:=h
  simp at h;subst h
  obtain⟨h1,h2⟩:=ih dW
  simp only[Option.map_eq_some_iff]at hc
  obtain⟨y,hy,rfl⟩:=hc
  refine⟨by simp[h1],fun k i z hk=>?_⟩
  cases k with
  |zero=>simp at hk;obtain⟨rfl,rfl⟩:=hk;exact⟨p.2,rfl,hy⟩
  |succ k=>simp at hk ⊢;exact h2 k i z hk
theorem DT {fs:Array Field} {l:List (Nat×O)} {q:List (Nat×Nat×O)} (h:sw P fs l=some q):q.length=l.length/\∀(k oo n:Nat) (y:O),q[k]? =some (oo,n,y)->∃(i:Nat) (f:Field),l[k]? =some (i,y)/\fs[i]? =some f/\f.offset=oo/\ej P f.type=some n:=by
 induction l generalizing q with
 |nil=>simp[sw]at h;subst h;simp
 |cons p r ih=>
  obtain⟨i,x⟩:=p
  unfold sw at h
  split at h
  ·rename_i f hf
   split at h
   ·rename_i n hn
    simp only[Option.map_eq_some_iff]at h
    obtain⟨q',NK,rfl⟩:=h
    obtain⟨h1,h2⟩:=ih NK
    refine⟨by simp[h1],fun k oo m y hk=>?_⟩
    cases k with
    |zero=>simp at hk;obtain⟨rfl,rfl,rfl⟩:=hk;exact⟨i,f,rfl,hf,rfl,hn⟩
    |succ k=>simp only[List.getElem?_cons_succ]at hk ⊢;exact h2 k oo m y hk
   ·simp at h
  ·simp at h
theorem fE.agg {xs:List AV} {vs:Array Value} (h:fE P w D ι xs vs) (hf:∀a∈xs,a.cell=true):dE P w D ι (.agg xs) (.agg vs):=
 .agg xs vs (fun j=>vs.getD j undef) h.1 hf (fun j hj=>by
  have:j<vs.size:=by rw[h.1];exact hj
  simp[this]) (fun j a ha=>by
  obtain⟨u,h1,h2⟩:=h.2 j a ha
  simpa[Array.getD_eq_getD_getElem?,h1]using h2)
theorem OQ {t:TypeId} {ps:Array (Nat×Operand)} {fs:Array Field} {z:List K} {l:List (Nat×O)} {q:List (Nat×Nat×O)} {cs:List AV} (E:dh P w D ι env a) (ho:o.op=.build t ps) (ht:P.underlying t=some (.struct fs)) (hz:jy P t=some z) (hl:sD P ps=some l)
  (rl:∀f∈fs.toList,(P.info? f.type).isSome=true) (hq:sw P fs l=some q) (hv:bH (z.map K.av) (q.map fun(o,n,x)=>(o,n,cZ env x))=some cs):nP P a o w D ι (.agg cs):=by
 obtain⟨it,zv,hi,wv,hs,hm,Gd⟩:=jL hz
 obtain⟨places,lp,Yv⟩:=ya rl
 have hk:=kL (P:=P) (w:=w) (D:=D) (ι:=ι) hm
 obtain⟨n1,r1⟩:=qb E hl
 obtain⟨n2,r2⟩:=DT hq
 obtain⟨jj,h1,h2,h3,_⟩:=vP (P:=P) (w:=w) (D:=D) (ι:=ι) (places.toArray[·]?) (ps.toList.map fun(i,x)=>(i,a.eval x)) (q.map fun(o,n,x)=>(o,n,cZ env x)) zv.cells _ cs (by simpa using hk)
  (fun b hb=>by obtain⟨c,_,rfl⟩:=List.mem_map.1 hb;exact c.mJ) (by simp[n2,n1]) (fun k i u o' n x sK rm=>by
   simp only[List.getElem?_map,Option.map_eq_some_iff]at sK rm
   obtain⟨⟨i',x'⟩,hp,e1⟩:=sK
   obtain⟨⟨o2,n',y⟩,NK,e2⟩:=rm
   simp only[Prod.mk.injEq]at e1 e2
   obtain⟨rfl,rfl⟩:=e1
   obtain⟨rfl,rfl,rfl⟩:=e2
   obtain⟨i2,f,Ny,hf,rfl,hn⟩:=r2 _ _ _ _ NK
   obtain⟨x2,Dw,hc⟩:=r1 _ _ _ Ny
   rw[hp]at Dw
   simp only[Option.some.injEq,Prod.mk.injEq]at Dw
   obtain⟨rfl,rfl⟩:=Dw
   exact⟨by simpa using Yv _ _ _ (by simpa using hf) hn,dM E hc⟩) hv
 refine⟨.agg jj,?_,h2.agg h3⟩
 have hb:P.built t ((ps.map fun(i,x)=>(i,a.eval x)).toList)=some jj:=by
  unfold Program.built
  simp only[hi,ht,wv,lp]
  simpa using h1
 simp only[execOp,ho,Sem.run_bind,run_build w t _ _ hb,Result.andThen_ok,Sem.run_pure]
theorem Mi {t e:TypeId} {len n:Nat} {ps:Array (Nat×Operand)} {z:List K} {l:List (Nat×O)} {cs:List AV} (E:dh P w D ι env a) (ho:o.op=.build t ps) (ht:P.underlying t=some (.array len e)) (hz:jy P t=some z) (hl:sD P ps=some l) (hn:ej P e=some n)
  (hv:bH (z.map K.av) ((l.map fun(x:Nat×O)=>(x.1*n,n,x.2)).map fun(o,n,x)=>(o,n,cZ env x))=some cs):nP P a o w D ι (.agg cs):=by
 obtain⟨it,zv,hi,wv,hs,hm,Gd⟩:=jL hz
 have hk:=kL (P:=P) (w:=w) (D:=D) (ι:=ι) hm
 obtain⟨n1,r1⟩:=qb E hl
 obtain⟨ie,Mt,fc⟩:∃ie,P.info? e=some ie/\ie.size=n:=by simpa[ej]using hn
 obtain⟨jj,h1,h2,h3,_⟩:=vP (P:=P) (w:=w) (D:=D) (ι:=ι) (fun i=>some (i*ie.size,ie.size)) (ps.toList.map fun(i,x)=>(i,a.eval x)) ((l.map fun(x:Nat×O)=>(x.1*n,n,x.2)).map fun(o,n,x)=>(o,n,cZ env x)) zv.cells _ cs (by simpa using hk)
  (fun b hb=>by obtain⟨c,_,rfl⟩:=List.mem_map.1 hb;exact c.mJ) (by simp[n1]) (fun k i u o' n' x sK rm=>by
   simp only[List.getElem?_map,Option.map_eq_some_iff]at sK rm
   obtain⟨⟨i',x'⟩,hp,e1⟩:=sK
   obtain⟨⟨o2,n2,y⟩,⟨⟨i2,y2⟩,Ny,e3⟩,e2⟩:=rm
   simp only[Prod.mk.injEq]at e1 e2 e3
   obtain⟨rfl,rfl⟩:=e1
   obtain⟨rfl,rfl,rfl⟩:=e2
   obtain⟨rfl,rfl,rfl⟩:=e3
   obtain⟨x2,Dw,hc⟩:=r1 _ _ _ Ny
   rw[hp]at Dw
   simp only[Option.some.injEq,Prod.mk.injEq]at Dw
   obtain⟨rfl,rfl⟩:=Dw
   exact⟨by rw[fc],dM E hc⟩) hv
 refine⟨.agg jj,?_,h2.agg h3⟩
 have hb:P.built t ((ps.map fun(i,x)=>(i,a.eval x)).toList)=some jj:=by
  unfold Program.built
  simp only[hi,ht,wv,Mt]
  simpa using h1
 simp only[execOp,ho,Sem.run_bind,run_build w t _ _ hb,Result.andThen_ok,Sem.run_pure]
theorem vO:∀(vs:List AV) (sz i:Nat) (rs:List (List AV)) (cs:List AV),0<sz->cs.length=(i+vs.length)*sz->rowsOf sz vs=some rs->
  bH cs ((vs.zipIdx i).map fun(v,j)=>(j*sz,sz,v))=some (cs.take (i*sz)++rs.flatten)/\rs.length=vs.length/\(∀c∈rs,c.length=sz)/\∀c∈rs,∀x∈c,x.cell=true
 |[],sz,i,rs,cs,_,hl,h=>by
  simp[rowsOf]at h;subst h
  simp at hl
  simp[bH,List.take_of_length_le (show cs.length<=i*sz by omega)]
 |v::r,sz,i,rs,cs,fc,hl,h=>by
  simp only[rowsOf,Option.bind_eq_some_iff,Option.map_eq_some_iff]at h
  obtain⟨c,hc,rs',za,rfl⟩:=h
  unfold rowOf at hc
  split at hc
  ·rename_i Ua
   simp at hc;subst hc
   obtain⟨oH,Ep⟩:=Ua
   simp only[List.length_cons]at hl
   have hmul:(i+(r.length+1))*sz=i*sz+sz+r.length*sz:=by rw[Nat.add_mul,Nat.add_mul];omega
   have ih:=vO r sz (i+1) rs' (cs.take (i*sz)++v.cells++cs.drop (i*sz+sz)) fc (by
    simp[oH];rw[Nat.add_mul,Nat.add_mul];omega) za
   refine⟨?_,by simp[ih.2.1],?_,?_⟩
   ·simp only[List.zipIdx_cons,List.map_cons,bH]
    rw[if_pos ⟨oH,ab,Ep⟩,ih.1]
    congr 1
    rw[List.flatten_cons,<-List.append_assoc]
    congr 1
    rw[Nat.add_mul,Nat.one_mul,List.take_append_of_le_length (by simp[oH];omega)]
    rw[List.take_of_length_le (by simp[oH];omega)]
   ·intro c' jZ;rcases List.mem_cons.1 jZ with rfl|jZ
    ·exact oH
    ·exact ih.2.2.1 c' jZ
   ·intro c' jZ;rcases List.mem_cons.1 jZ with rfl|jZ
    ·exact List.all_eq_true.1 Ep
    ·exact ih.2.2.2 c' jZ
  ·simp at hc
theorem flat_get {α:Type} {oq:List (List α)} {sz:Nat} (h:∀cs∈oq,cs.length=sz) {i j:Nat} {cs:List α} {a:α} (hi:oq[i]? =some cs) (hj:cs[j]? =some a):oq.flatten[i*sz+j]? =some a:=by
 induction oq generalizing i with
 |nil=>simp at hi
 |cons c r ih=>
  have hc:c.length=sz:=h c (by simp)
  cases i with
  |zero=>
   simp at hi;subst hi
   have eJ:=(List.getElem?_eq_some_iff.1 hj).1
   rw[List.flatten_cons,List.getElem?_append_left ab];simpa using hj
  |succ i=>
   rw[List.flatten_cons,List.getElem?_append_right (by rw[hc,Nat.succ_mul];omega)]
   have:(i+1)*sz+j-c.length=i*sz+j:=by rw[hc,Nat.succ_mul];omega
   rw[this]
   exact ih (fun cs dW=>h cs (List.mem_cons_of_mem _ dW)) (by simpa using hi)
theorem JR {α:Type} {oq:List (List α)} {sz:Nat} (h:∀cs∈oq,cs.length=sz):oq.flatten.length=oq.length*sz:=by
 induction oq with
 |nil=>simp
 |cons c r ih=>
  rw[List.flatten_cons,List.length_append,h c (by simp),ih (fun cs dW=>h cs (List.mem_cons_of_mem _ dW)),List.length_cons,Nat.succ_mul];omega
theorem pd {zv:Value} {z:List K} {n:Nat} (hm:zv.cells.toList.mapM HD=some z) (kC:0<z.length):∀k,k<n->∃c,z[k % z.length]? =some c/\((Array.range n).map (zv.cells[· % zv.cells.size]!))[k]? =some c.val:=by
 intro k hk
 obtain⟨h1,h2⟩:=rI hm
 have fc:zv.cells.size=z.length:=by simpa using h1.symm
 have eJ:k % z.length<z.length:=Nat.mod_lt _ kC
 refine⟨z[k % z.length],List.getElem?_eq_getElem eJ,?_⟩
 have h3:=h2 _ _ (List.getElem?_eq_getElem eJ)
 simp only[Array.getElem?_toList]at h3
 have AH:k % z.length<zv.cells.size:=by rw[fc];exact eJ
 rw[Array.getElem?_map,Array.getElem?_range,if_pos hk]
 simp only[Option.map_some]
 rw[fc,getElem!_pos zv.cells (k % z.length) AH]
 rw[Array.getElem?_eq_getElem AH]at h3
 exact h3
theorem KO {t e:TypeId} {len sz:Nat} {ps:Array (Nat×Operand)} {z:List K} {l:List (Nat×O)} {rs:List (List AV)} (E:dh P w D ι env a) (ho:o.op=.buildSlice t len ps) (ht:P.underlying t=some (.slice e)) (fc:ej P e=some (sz+1)) (hz:jy P e=some z)
  (hl:sD P ps=some l) (PD:len*(sz+1)<=4096) (UP:l.map (·.1)=List.range len) (hv:rowsOf (sz+1) (l.map fun x=>cZ env x.2)=some rs):Mk P a o w D ι id (.own id 0 len) ⟨true,sz+1,rs⟩:=by
 obtain⟨it,zv,hi,wv,hs,hm,Gd⟩:=jL hz
 have ju:it.size=sz+1:=by simpa[ej,hi]using fc
 obtain⟨n1,r1⟩:=qb E hl
 have Nz:l.length=len:=by have:=congrArg List.length UP;simpa using this
 by_cases h0:len=0
 ·subst h0
  have Mx:l=[]:=List.length_eq_zero_iff.1 Nz
  subst Mx
  simp[rowsOf]at hv;subst hv
  have WD:ps= #[]:=by
   apply Array.ext';apply List.eq_nil_of_length_eq_zero;rw[<-n1];rfl
  subst WD
  refine⟨.slice (some ⟨w.heap.size,0,none⟩) 0 0, #[],e,?_,rfl,by simp,by simp,by simp,fun i j cs x hi=>by simp at hi,fun ι' hι=>?_⟩
  ·simp[execOp,ho,Instr.buildSlice,run_underlying ht,sizeOf,typeInfo,hi,Instr.fill,newRow,Array.range_zero']
  ·exact .own _ 0 0 0 0 _ hι rfl (Nat.le_refl _) (.inl rfl) (by simp) (by simp[maxLen])
 ·have xS:fE P w D ι ((List.range (len*(sz+1))).map fun k=>(z.getD (k % z.length) .bP).av) ((Array.range (len*(sz+1))).map (zv.cells[· % zv.cells.size]!)):=by
   refine⟨by simp,fun j x hx=>?_⟩
   simp only[List.getElem?_map,Option.map_eq_some_iff]at hx
   obtain⟨k,hk,rfl⟩:=hx
   have mN:=(List.getElem?_eq_some_iff.1 hk).1
   simp at mN
   rw[List.getElem?_range mN]at hk
   injection hk with hk
   subst hk
   obtain⟨c,hc,Po⟩:=pd hm (by rw[Gd,ju];omega) j mN
   exact⟨c.val,Po,by rw[List.getD_eq_getElem?_getD,hc];exact xh c⟩
  obtain⟨f1,f2,f3,f4⟩:=vO (l.map fun x=>cZ env x.2) (sz+1) 0 rs ((List.range (len*(sz+1))).map fun k=>(z.getD (k % z.length) .bP).av) ab (by simp[Nz]) hv
  obtain⟨jj,h1,h2,h3,h4⟩:=vP (P:=P) (w:=w) (D:=D) (ι:=ι) (fun i=>some (i*it.size,it.size)) (ps.toList.map fun(i,x)=>(i,a.eval x)) _ _ _ _ xS
   (fun b hb=>by obtain⟨c,_,rfl⟩:=List.mem_map.1 hb;exact K.mJ _) (by simp[n1]) (fun k i u o' n x sK rm=>by
   simp only[List.getElem?_map,Option.map_eq_some_iff]at sK rm
   obtain⟨⟨i',x'⟩,hp,e1⟩:=sK
   obtain⟨⟨v2,j2⟩,NK,e2⟩:=rm
   simp only[Prod.mk.injEq]at e1 e2
   obtain⟨rfl,rfl⟩:=e1
   obtain⟨rfl,rfl,rfl⟩:=e2
   rw[List.getElem?_zipIdx]at NK
   simp only[List.getElem?_map,Option.map_map,Option.map_eq_some_iff,Function.comp_apply,Prod.mk.injEq,Nat.zero_add]at NK
   obtain⟨⟨i2,y⟩,Ny,rfl,rfl⟩:=NK
   obtain⟨x2,Dw,hc⟩:=r1 _ _ _ Ny
   rw[hp]at Dw
   simp only[Option.some.injEq,Prod.mk.injEq]at Dw
   obtain⟨rfl,rfl⟩:=Dw
   have Dt:(l.map (·.1))[k]? =some i':=by rw[List.getElem?_map,Ny];rfl
   have mN:=(List.getElem?_eq_some_iff.1 Dt).1
   rw[UP]at Dt
   simp at mN
   rw[List.getElem?_range ab]at Dt
   injection Dt with Dt
   subst Dt
   exact⟨by rw[ju],dM E hc⟩) f1
  simp only[Nat.zero_mul,List.take_zero,List.nil_append,List.length_map]at h2 h3 h4 f2
  have dW:jj.size=len*(sz+1):=by rw[h2.1,h4];simp
  refine⟨.slice (some ⟨w.heap.size,0,none⟩) len len,jj,e,?_,rfl,?_,f3,f4,fun i j cs x qD hj=>h2.2 _ _ (flat_get f3 qD hj),fun ι' hι=>?_⟩
  ·have fF:=run_buildSlice (P:=P) w t e len (ps.map fun(i,x)=>(i,a.eval x)) jj it zv ht hi wv (by rw[ju];omega) (by rw[ju];exact Nat.mul_ne_zero h0 ab) (by rw[<-ju]at h1;simpa using h1)
   simp only[execOp,ho,Sem.run_bind,fF,Result.andThen_ok,Sem.run_pure]
  ·dsimp only;rw[f2,Nz,dW];exact Nat.le_refl _
  ·refine .own _ 0 len 0 len _ hι rfl (Nat.le_refl _) (.inr (by simp)) ?_ (by simp only[maxLen];have:=Nat.le_mul_of_pos_right len (show 0<sz+1 by omega);omega)
   dsimp only;rw[dW];simp
theorem HO {t e:TypeId} {it:TypeInfo} {m:Nat} {z:List K} {l c:Operand} {l' c':O} {n:Nat} {r:Row} (E:dh P w D ι env a) (ho:o.op=.makeSlice t l c) (ht:P.underlying t=some (.slice e)) (fc:ej P e=some (m+1)) (hz:jy P e=some z) (IJ:P.info? e=some it) (hby:it.bytes<=32768)
  (hl:cO P l=some l') (hc:cO P c=some c') (hv:eM z (cZ env l') (cZ env c')=some (n,r)):Mk P a o w D ι id (.own id 0 n) r:=by
 obtain⟨it',zv,hi,wv,hs,hm,Gd⟩:=jL hz
 rw[IJ]at hi;injection hi with hi;subst hi
 have ju:it.size=m+1:=by simpa[ej,IJ]using fc
 unfold eM at hv
 split at hv
 ·rename_i k1 ln k2 cn e1 e2
  split at hv
  ·rename_i hb
   obtain⟨b1,b2,b3⟩:=hb
   simp at hv
   obtain⟨rfl,rfl⟩:=hv
   have r1:=dI (e1▸dM E hl)
   have r2:=dI (e2▸dM E hc)
   unfold cX at b3
   have Ds:(it.bytes:Int)*cn<=281474976710656:=by
    have h1:(it.bytes:Int)<=32768:=ab
    have h2:(it.bytes:Int)*cn<=32768*16777216:=Int.mul_le_mul h1 ab ab ab
    omega
   have fF:=run_make (P:=P) w t e it zv ht IJ wv k1 k2 ln cn b1 b2 Ds ab
   have iZ:∀k,k<cn.toNat*it.size->∃x,z[k % z.length]? =some x/\(madeCells zv.cells (cn.toNat*it.size))[k]? =some x.val:=fun k hk=>pd hm (by rw[Gd,ju];omega) k hk
   refine⟨.slice (some ⟨w.heap.size,0,none⟩) ln.toNat cn.toNat,madeCells zv.cells (cn.toNat*it.size),e,by simp only[execOp,ho,r1,r2,Sem.run_bind,fF,Result.andThen_ok,Sem.run_pure],rfl,?_,?_,?_,?_,fun ι' hι=>?_⟩
   ·simp only[List.length_replicate,size_madeCells,Gd]
    exact Nat.mul_le_mul_right _ ab
   ·intro cs dW
    have:=List.eq_of_mem_replicate dW
    subst this;simp
   ·intro cs dW x hx
    have:=List.eq_of_mem_replicate dW
    subst this
    obtain⟨c,_,rfl⟩:=List.mem_map.1 hx;exact c.mJ
   ·intro i j cs x qD hj
    have pN:=(List.getElem?_eq_some_iff.1 qD).1
    have:=List.eq_of_mem_replicate (List.mem_of_getElem? qD)
    subst this
    simp only[List.length_replicate]at pN
    simp only[List.getElem?_map,Option.map_eq_some_iff]at hj
    obtain⟨q,hq,rfl⟩:=hj
    have ja:=(List.getElem?_eq_some_iff.1 hq).1
    dsimp only
    obtain⟨x,hx,Dw⟩:=iZ (i*z.length+j) (by
     rw[<-Gd]
     calc i*z.length+j<i*z.length+z.length:=ab
      _=(i+1)*z.length:=by rw[Nat.add_mul,Nat.one_mul]
      _<=cn.toNat*z.length:=Nat.mul_le_mul_right _ ab)
    rw[Nat.mul_comm i,Nat.mul_add_mod,Nat.mod_eq_of_lt ja,hq]at hx
    injection hx with hx;subst hx
    exact⟨_,by rw[Nat.mul_comm i]at Dw ⊢;exact Dw,xh q⟩
   ·refine .own _ 0 _ 0 _ _ hι rfl ab (.inr (by simp)) ?_ (by simp only[maxLen];omega)
    dsimp only;rw[size_madeCells,Gd];simp
  ·simp at hv
 ·simp at hv
end
end Go.Proofs.YtalkncaokeaifaaGreatDoor.V

namespace Go.Proofs.YtalkncaokeaifaaGreatDoor.V
open Go.RowKit
variable {P:Program} {w w':World} {D D':Nat->Prop} {ι ι':Names}
def FB (P:Program) (k:TypeId) (m:MK):Prop:=
 (∃s,m=⟨false,[s]⟩/\fM P k=some s)∨
 (∃fs ts,m=⟨true,ts⟩/\P.underlying k=some (.struct fs)/\eQ P 4 0 fs.toList=some ts/\P.stoodInHeld k=false/\∀f∈fs.toList,(fM P f.type).isSome=true)
theorem qO {t:TypeId} {m:MK} {z:K} (h:sC P t=some (m,z)):∃k e i zv,P.underlying t=some (.map k e)/\P.info? e=some i/\i.zero=some zv/\HD zv=some z/\FB P k m:=by
 unfold sC at h
 split at h
 ·rename_i k e ht
  split at h
  ·rename_i zv s h1 h2 h3
   simp only[Option.map_eq_some_iff,Prod.mk.injEq]at h
   obtain⟨z',hz,rfl,rfl⟩:=h
   simp only[Option.bind_eq_some_iff]at h2
   obtain⟨i,hi,wv⟩:=h2
   exact⟨k,e,i,zv,ht,hi,wv,hz,.inl ⟨s,rfl,h3⟩⟩
  ·rename_i zv fs h1 h2 h3 h4
   split at h
   ·rename_i ts z' qE hz
    split at h
    ·rename_i hc
     simp only[Option.some.injEq,Prod.mk.injEq]at h
     obtain⟨rfl,rfl⟩:=h
     simp only[Option.bind_eq_some_iff]at h2
     obtain⟨i,hi,wv⟩:=h2
     simp only[Bool.not_eq_true',List.all_eq_true]at hc
     exact⟨k,e,i,zv,ht,hi,wv,hz,.inr ⟨fs,ts,rfl,h4,qE,hc.1,hc.2⟩⟩
    ·cases h
   ·cases h
  ·cases h
 ·cases h
theorem xr {t:TypeId} {s:TS} (ht:fM P t=some s) (em:Bool) (n:Nat) (v:Value):(Instr.checkKey em (n+1) t v).run P w=.ok () w:=by
 unfold Instr.checkKey
 cases s with
 |tB=>simp[run_underlying (pG ht)]
 |tS=>simp[run_underlying (pI ht)]
 |tI=>
  obtain⟨q,hq⟩:=pH ht
  simp[run_underlying hq]
theorem xt (em:Bool) (n:Nat) (vs:Array Value):∀(d:Nat) (fs:List Field) (off:Nat) (ts:List TS),eQ P (d+1) off fs=some ts->(∀f∈fs,(fM P f.type).isSome=true)->off+ts.length<=vs.size->
  Sem.run P (forIn fs PUnit.unit fun f (_:PUnit)=>if f.name≠ "_" then do
    let x <-Go.part f.type vs f.offset
    Instr.checkKey em (n+1) f.type x
    pure (ForInStep.yield PUnit.unit)
   else pure (ForInStep.yield PUnit.unit)) w=Result.ok PUnit.unit w
 |d,[],off,ts,_,_,_=>by simp
 |d,f::r,off,ts,hf,hs,hl=>by
  rw[yR]at hf
  split at hf
  ·rename_i hcond
   obtain⟨ho,gZ⟩:=hcond
   split at hf
   ·rename_i s Py
    split at hf
    ·rename_i tM
     simp only[Option.map_eq_some_iff]at hf
     obtain⟨MB,hr,rfl⟩:=hf
     simp only[List.length_cons]at hl
     have ih:=xt em n vs d r (off+1) MB hr (fun f hf=>hs f (List.mem_cons_of_mem _ hf)) ab
     have hu:vs[off]? =some vs[off]:=by simp
     simp only[List.forIn_cons,Sem.run_bind,if_pos gZ,ho,mm tM hu,Result.andThen_ok,xr Py,Sem.run_pure]
     exact ih
    ·cases hf
   ·rename_i hn
    have:=hs f (by simp)
    rw[hn]at this;cases this
  ·cases hf
theorem Fe {k:TypeId} {m:MK} (hk:FB P k m) (em:Bool) (key:AV) (u:Value) (tM:key.isAgg=m.ka) (hlen:key.cells.length=m.ks) (hr:dE P w D ι key u):(Instr.checkKey em 10000 k u).run P w=.ok () w:=by
 rcases hk with⟨s,rfl,hs⟩|⟨fs,ts,rfl,rl,qE,ed,eI⟩
 ·exact xr hs em 9999 u
 ·cases key<;>simp[AV.isAgg]at tM
  rename_i cs
  obtain⟨vs,f,rfl,h1,_⟩:=iy hr
  unfold Instr.checkKey
  simp only[Sem.run_bind,run_underlying rl,Result.andThen_ok]
  rw[<-Array.forIn_toList]
  have h:=xt (P:=P) (w:=w) em 9998 vs 3 fs.toList 0 ts qE eI (by simp[AV.cells,MK.ks]at hlen;omega)
  rw[h]
  rfl
theorem Jm (a b:ByteArray):(a==b)=decide (a=b):=by
 by_cases h:a=b
 ·subst h;rw[decide_eq_true rfl]
  obtain⟨x⟩:=a
  show(x==x)=true
  simp
 ·rw[decide_eq_false h,Bool.eq_false_iff]
  intro hc
  obtain⟨x⟩:=a
  obtain⟨y⟩:=b
  exact h (by rw[show x=y by simpa using(show(x==y)=true from hc)])
theorem LC {t:TypeId} {s:TS} {x y:AV} {u v:Value} {b:Bool} {d:TypeDesc} (ht:fM P t=some s) (hd:P.underlying t=some d) (he:er s x y=some b) (hx:dE P w D ι x u) (hy:dE P w D ι y v):Instr.sameNow d u v=some b:=by
 unfold er at he
 split at he
 ·rename_i k n k' n'
  split at he
  ·rename_i hk
   subst hk
   simp at he;subst he
   obtain⟨q,hq⟩:=pH ht
   rw[hd]at hq;injection hq with hq;subst hq
   rw[dI hx,dI hy]
   simp[Instr.sameNow]
   rfl
  ·cases he
 ·simp at he;subst he
  have hq:=pG ht
  rw[hd]at hq;injection hq with hq;subst hq
  rw[fA hx,fA hy];rfl
 ·rename_i a c
  simp at he;subst he
  have hq:=pI ht
  rw[hd]at hq;injection hq with hq;subst hq
  rw[fU hx,fU hy]
  simp only[Instr.sameNow,Jm]
 ·cases he
def Found (es:List MapEntry) (i:Nat) (r:Option Nat) (res:Option (Nat×Value)):Prop:=(r=none/\res=none)∨∃j e,r=some (i+j)/\es[j]? =some e/\res=some (i+j,e.val)
theorem vU {e:MapEntry} {es:List MapEntry} {i:Nat} {r:Option Nat} {res:Option (Nat×Value)} (h:Found es (i+1) r res):Found (e::es) i r res:=by
 rcases h with h|⟨j,x,h1,h2,h3⟩
 ·exact .inl h
 ·exact .inr ⟨j+1,x,by rw[h1];congr 1;omega,by simpa using h2,by rw[h3];congr 2;omega⟩
theorem B6 {t:TypeId} {s:TS} {d:TypeDesc} {x:AV} {u:Value} (ht:fM P t=some s) (hd:P.underlying t=some d) (hx:dE P w D ι x u):∀(rows:List (List AV)) (es:List MapEntry) (i:Nat) (r:Option Nat),es.length=rows.length->
  (∀(j:Nat) (cs:List AV),rows[j]? =some cs->∃(e:MapEntry) (kv:AV),es[j]? =some e/\cs.head? =some kv/\dE P w D ι kv e.key)->fK ⟨false,[s]⟩ [x] rows i=some r->∃res,Instr.findNow d u es i=some res/\Found es i r res
 |[],[],i,r,_,_,h=>by
  simp[fK]at h;subst h
  exact⟨none,rfl,.inl ⟨rfl,rfl⟩⟩
 |[],e::es,i,r,hl,_,h=>by simp at hl
 |cs::rows,[],i,r,hl,_,h=>by simp at hl
 |cs::rows,e::es,i,r,hl,hr,h=>by
  obtain⟨e',kv,II,hk,hZ⟩:=hr 0 cs rfl
  simp at II;subst II
  have dW:cs.take (MK.ks ⟨false,[s]⟩)=[kv]:=by
   cases cs with
   |nil=>simp at hk
   |cons a l=>simp at hk;subst hk;simp[MK.ks]
  unfold fK at h
  rw[dW]at h
  cases hq:er s x kv with
  |none=>simp[ea,hq]at h
  |some b=>
   have hs:=LC ht hd hq hx hZ
   cases b with
   |true=>
    simp[ea,hq]at h;subst h
    exact⟨some (i,e.val),by simp[Instr.findNow,hs],.inr ⟨0,e,rfl,rfl,rfl⟩⟩
   |false=>
    simp[ea,hq]at h
    obtain⟨res,h1,h2⟩:=B6 ht hd hx rows es (i+1) r (by simpa using hl) (fun j cs hj=>hr (j+1) cs (by simpa using hj)) h
    exact⟨res,by simp[Instr.findNow,hs,h1],vU h2⟩
theorem p9 {t:TypeId} {fs:Array Field} {ts:List TS} {xs ys:List AV} {vs us:Array Value} {b:Bool} (rl:P.underlying t=some (.struct fs)) (ed:P.stoodInHeld t=false) (qE:eQ P 4 0 fs.toList=some ts) (hx:fE P w D ι xs vs) (hy:fE P w D ι ys us) (hv:ea ts xs ys=some b):(Op.equal t (.agg vs) (.agg us)).run P w=.ok b w:=by
 obtain⟨l1,l2⟩:=qZ hv
 have q:=rW (w:=w) 4 fs.toList 0 ts qE 9998 ab xs ys vs us b hx hy (by simpa[List.take_of_length_le,l1,l2]using hv)
 have Ka:P.fieldsOf t=fs:=by simp[Program.fieldsOf,rl]
 unfold Op.equal
 rw[show Op.maxDepth=9999+1 from rfl,run_equalIn_struct w 9999 t _ _ (by rw[Ka];exact rl) ed,Ka,q]
theorem rU {cs:List AV} {v:Value} (h:dE P w D ι (.agg cs) v):∃vs,v=.agg vs/\fE P w D ι cs vs:=by
 obtain⟨vs,f,rfl,n1,_,f1,r1⟩:=iy h
 exact⟨vs,rfl,n1,fun j a ha=>⟨f j,f1 j (List.getElem?_eq_some_iff.1 ha).1,r1 j a ha⟩⟩
theorem B5 {t:TypeId} {fs:Array Field} {ts:List TS} {xs:List AV} {vs:Array Value} (rl:P.underlying t=some (.struct fs)) (ed:P.stoodInHeld t=false) (qE:eQ P 4 0 fs.toList=some ts) (hx:fE P w D ι xs vs):∀(rows:List (List AV)) (es:List MapEntry) (i:Nat) (r:Option Nat),es.length=rows.length->
  (∀(j:Nat) (cs:List AV),rows[j]? =some cs->∃e:MapEntry,es[j]? =some e/\dE P w D ι (.agg (cs.take ts.length)) e.key)->fK ⟨true,ts⟩ xs rows i=some r->∃res,(Instr.findAsking t (.agg vs) es i).run P w=.ok res w/\Found es i r res
 |[],[],i,r,_,_,h=>by
  simp[fK]at h;subst h
  exact⟨none,by simp[Instr.findAsking],.inl ⟨rfl,rfl⟩⟩
 |[],e::es,i,r,hl,_,h=>by simp at hl
 |cs::rows,[],i,r,hl,_,h=>by simp at hl
 |cs::rows,e::es,i,r,hl,hr,h=>by
  obtain⟨e',II,hZ⟩:=hr 0 cs rfl
  simp at II;subst II
  obtain⟨us,hk,hy⟩:=rU hZ
  unfold fK at h
  simp only[MK.ks]at h
  split at h
  ·rename_i hq
   simp at h;subst h
   have q:=p9 rl ed qE hx hy hq
   exact⟨some (i,e.val),by simp[Instr.findAsking,hk,q],.inr ⟨0,e,rfl,rfl,rfl⟩⟩
  ·rename_i hq
   have q:=p9 rl ed qE hx hy hq
   obtain⟨res,h1,h2⟩:=B5 rl ed qE hx rows es (i+1) r (by simpa using hl) (fun j cs hj=>hr (j+1) cs (by simpa using hj)) h
   exact⟨res,by simp[Instr.findAsking,hk,q,h1],vU h2⟩
  ·cases h
theorem vI {a:AV} (h:a.isAgg=false):a.cells=[a]:=by cases a<;>simp_all [AV.isAgg,AV.cells]
theorem vQ {k:TypeId} {m:MK} {B:sr} {r:Row} (hk:FB P k m) {key:AV} {u:Value} (hr:dE P w D ι key u) {es:Array MapEntry} (fc:es.size=r.rows.length)
  (hM:∀(i:Nat) (cs:List AV),r.rows[i]? =some cs->∃(e:MapEntry) (kv vv:AV),es[i]? =some e/\part m.ka m.ks cs=some kv/\cs[m.ks]? =some vv/\dE P w D ι kv e.key/\dE P w D ι vv e.val) {fi:Option Nat} (h:fq m key r.rows=some fi):
  (∀em,(Instr.checkKey em 10000 k u).run P w=.ok () w)/\∃res,(Instr.findKey k u es.toList).run P w=.ok res w/\Found es.toList 0 fi res:=by
 unfold fq at h
 split at h
 ·rename_i hc
  obtain⟨c1,c2,c3⟩:=hc
  refine⟨fun em=>Fe hk em key u c1 c2 hr,?_⟩
  rcases hk with⟨s,rfl,hs⟩|⟨fs,ts,rfl,rl,qE,ed,eI⟩
  ·rw[vI c1]at h
   have hd:∃d,P.underlying k=some d:=by
    cases s with
    |tB=>exact⟨_,pG hs⟩
    |tS=>exact⟨_,pI hs⟩
    |tI=>obtain⟨q,hq⟩:=pH hs;exact⟨_,hq⟩
   obtain⟨d,hd⟩:=hd
   obtain⟨res,h1,h2⟩:=B6 hs hd hr r.rows es.toList 0 fi (by simpa using fc) (fun j cs hj=>by
    obtain⟨e,kv,vv,q1,q2,_,q4,_⟩:=hM j cs hj
    exact⟨e,kv,by simpa using q1,by simpa[part]using q2,q4⟩) h
   exact⟨res,by simp[Instr.findKey,run_underlying hd,h1],h2⟩
  ·cases key<;>simp[AV.isAgg]at c1
   rename_i cs
   obtain⟨vs,rfl,hL⟩:=rU hr
   obtain⟨res,h1,h2⟩:=B5 rl ed qE hL r.rows es.toList 0 fi (by simpa using fc) (fun j cs hj=>by
    obtain⟨e,kv,vv,q1,q2,_,q4,_⟩:=hM j cs hj
    unfold part at q2
    simp only[if_true]at q2
    split at q2
    ·simp only[Option.some.injEq]at q2;subst q2
     exact⟨e,by simpa using q1,q4⟩
    ·cases q2) h
   exact⟨res,(run_findKey_eq w (by simp[rl]) _ _).trans h1,h2⟩
 ·cases h
section
variable {g:Rows} {hs:Nat} {env:Env} {a:Act} {o:Oper} {id:Id} {v:AV}
theorem AP {m:MK} {x:AV} {u:Value} {p:Id×Row} (S:fZ P hs D ι g w) (hr:dE P w D ι x u) (h:de g m x=some p):∃B,u=.map (some B.b)/\g p.1=some p.2/\ι p.1=some B/\B.k=some (.map m)/\O4 P w D ι B m p.2:=by
 unfold de at h
 split at h
 ·rename_i i m'
  split at h
  ·rename_i hm
   subst hm
   simp only[Option.map_eq_some_iff]at h
   obtain⟨r,hg,rfl⟩:=h
   obtain⟨B,rfl,hB,hk⟩:=A7 hr
   obtain⟨B',ef,R,_⟩:=S.row i r hg
   rw[hB]at ef;injection ef with ef;subst ef
   exact⟨B,rfl,hg,hB,hk,(R.map _ hk).2⟩
  ·cases h
 ·cases h
theorem Ss {t:TypeId} {x k:Operand} {ok:Bool} {m:MK} {z:K} {x' k':O} {mr:Option Row} (S:fZ P hs D ι g w) (E:dh P w D ι env a) (ho:o.op=.lookup t x k ok) (hc:sC P t=some (m,z)) (hx:cO P x=some x') (hk:cO P k=some k')
  (hv:aW (.look m ok z) [cZ env x',cZ env k'] g id=some (v,mr)):mr=none/\nP P a o w D ι v:=by
 obtain⟨kt,e,i,zv,ht,hi,wv,Uw,hK⟩:=qO hc
 simp only[aW,Option.bind_eq_some_iff,Option.map_eq_some_iff,Prod.mk.injEq]at hv
 obtain⟨p,hp,fi,yg,y,hy,rfl,rfl⟩:=hv
 obtain⟨B,hu,hg,hB,uI,es,clock,hb,fc,hlen,hM⟩:=AP S (dM E hx) hp
 obtain⟨QW,res,hf,hF⟩:=vQ (B:=B) hK (dM E hk) fc hM yg
 have key:∃val,(match res with|some (_,v)=>(v,true)|none=>(zv,false))=(val,fi.isSome)/\dE P w D ι y val:=by
  rcases hF with⟨rfl,rfl⟩|⟨j,en,rfl,he,rfl⟩
  ·simp only[di,Option.some.injEq]at hy;subst hy
   refine⟨zv,rfl,?_⟩
   rw[AM Uw];exact xh z
  ·simp only[di,Option.bind_eq_some_iff,Nat.zero_add]at hy
   obtain⟨cs,dW,hy⟩:=hy
   obtain⟨e',kv,vv,q1,_,q3,_,q5⟩:=hM _ cs dW
   rw[hy]at q3;injection q3 with q3;subst q3
   have:e'=en:=by
    have h1:es.toList[j]? =some e':=by simpa using q1
    rw[he]at h1;injection h1 with h1;exact h1.symm
   subst this
   exact⟨_,rfl,q5⟩
 obtain⟨val,wq,nT⟩:=key
 have iK:(getObj B.b).run P w=.ok (.map es clock) w:=MapKept.run_getObj_map hb
 have hz:(zeroValue e).run P w=.ok zv w:=by simp[zeroValue,typeInfo,hi,wv]
 refine⟨rfl,if ok then .tuple #[val,.bool fi.isSome]else val,?_,?_⟩
 ·simp only[execOp,ho,hu,Instr.lookup,Sem.run_bind,run_underlying ht,Result.andThen_ok,iK,Sem.run_pure,QW,hf]
  rcases hF with⟨rfl,rfl⟩|⟨j,en,rfl,he,rfl⟩
  ·simp only[Prod.mk.injEq]at wq
   simp[hz,wq.1]
  ·simp only[Prod.mk.injEq]at wq
   simp[wq.1]
 ·cases ok with
  |false=>exact nT
  |true=>
   refine .fN _ _ (fun j=>if j=0 then val else .bool fi.isSome) rfl (fun j hj=>?_) (fun j b hj=>?_)
   ·have:j=0∨j=1:=by simp at hj;omega
    rcases this with rfl|rfl<;>rfl
   ·match j,hj with
    |0,hj=>simp at hj;subst hj;exact nT
    |1,hj=>simp at hj;subst hj;exact .eE _ _ (.bool _)
    |j+2,hj=>simp at hj
theorem Sw {t:TypeId} {x:Operand} {m:MK} {z:K} {x':O} {mr:Option Row} (S:fZ P hs D ι g w) (E:dh P w D ι env a) (ho:o.op=.call {callee:=.builtin .len,args:= #[x],argTypes:= #[t]}) (hc:sC P t=some (m,z)) (hx:cO P x=some x')
  (hv:aW (.len m) [cZ env x'] g id=some (v,mr)):mr=none/\nP P a o w D ι v:=by
 obtain⟨kt,e,i,zv,ht,hi,wv,Uw,hK⟩:=qO hc
 simp only[aW,Option.map_eq_some_iff,Prod.mk.injEq]at hv
 obtain⟨p,hp,rfl,rfl⟩:=hv
 obtain⟨B,hu,hg,hB,uI,es,clock,hb,fc,hlen,hM⟩:=AP S (dM E hx) hp
 have iK:(getObj B.b).run P w=.ok (.map es clock) w:=MapKept.run_getObj_map hb
 refine⟨rfl,.int .i64 (es.size:Int),?_,by rw[fc];exact .eE _ _ (.int _ _)⟩
 simp only[execOp,ho,resolve,Sem.run_bind,Sem.run_pure,Result.andThen_ok,invoke,builtin,Array.map,hu]
 simp[Builtin.len_,run_underlying ht,goInt,hu,iK]
def MkM (P:Program) (a:Act) (o:Oper) (w:World) (id:Id) (v:AV) (r:Row):Prop:=
 ∃m,(execOp a.eval o).run P w=.ok (.value (.map (some w.heap.size))) (w.alloc (.map #[] 0))/\v=.map id m/\r=⟨true,m.j4,[]⟩
theorem Vd {t:TypeId} {m:MK} (ho:o.op=.makeMap t none):MkM P a o w id (.map id m) ⟨true,m.j4,[]⟩:=by
 refine⟨m,?_,rfl,rfl⟩
 simp[execOp,ho,Instr.makeMap,go_sem]
def MkC (P:Program) (a:Act) (o:Oper) (w:World) (id:Id) (v:AV) (r:Row):Prop:=
 ∃n,(execOp a.eval o).run P w=.ok (.value (.chan (some w.heap.size))) (w.alloc (.chan n #[] false 0 0 false))/\v=.qR id/\r=⟨true,qU+n,[]⟩
theorem RG {t e:TypeId} {x:Operand} {x':O} {dir:ChanDir} {i:TypeInfo} {n:Nat} (E:dh P w D ι env a) (ho:o.op=.makeChan t x) (ht:P.underlying t=some (.chan dir e)) (hi:P.info? e=some i) (hb:i.bytes<=32768) (hx:cO P x=some x') (hn:cr (cZ env x')=some n):MkC P a o w id (.qR id) ⟨true,qU+n,[]⟩:=by
 refine⟨n,?_,rfl,rfl⟩
 have hr:=dM E hx
 unfold cr at hn
 split at hn
 ·rename_i k m hm
  rw[hm]at hr
  split at hn
  ·rename_i hc
   simp only[Option.some.injEq]at hn
   subst hn
   have SL:((m.toNat:Nat):Int)=m:=ab
   have eJ:(i.bytes:Int)*(m.toNat:Nat)<=281474976710544:=by
    have h1:i.bytes*m.toNat<=32768*1048576:=Nat.mul_le_mul hb ab
    have h2:((i.bytes*m.toNat:Nat):Int)<=281474976710544:=ab
    rwa [Int.natCast_mul]at h2
   have h:=Conc.run_makeChan (P:=P) (w:=w) ht hi k m.toNat ab eJ
   rw[SL]at h
   simp only[execOp,ho,dI hr,Sem.run_bind,h,Result.andThen_ok,Sem.run_pure]
  ·cases hn
 ·cases hn
theorem Aj {x:AV} {u:Value} {i:Id} {r:Row} (S:fZ P hs D ι g w) (hr:dE P w D ι x u) (hx:x=.qR i) (hg:g i=some r):∃B c,u=.chan (some B.b)/\ι i=some B/\B.k=some (.chan c)/\r.sz=qU+c/\IY P w D ι B c r:=by
 subst hx
 obtain⟨B,c,rfl,hB,hk⟩:=Ot hr
 obtain⟨B',ef,R,_⟩:=S.row i r hg
 rw[hB]at ef;injection ef with ef;subst ef
 exact⟨B,c,rfl,hB,hk,R.chan c hk⟩
theorem Sp {t e:TypeId} {dir:ChanDir} {x:Operand} {x':O} (S:fZ P hs D ι g w) (E:dh P w D ι env a) (ho:o.op=.call {callee:=.builtin .len,args:= #[x],argTypes:= #[t]}) (ht:P.underlying t=some (.chan dir e)) (hx:cO P x=some x') (hv:cm g (cZ env x')=some v):nP P a o w D ι v:=by
 have hr:=dM E hx
 unfold cm at hv
 split at hv
 ·rename_i i he
  simp only[Option.map_eq_some_iff]at hv
  obtain⟨r,hg,rfl⟩:=hv
  obtain⟨B,c,hu,hB,hk,fc,buf,s,q,hb,IG,_⟩:=Aj S hr he hg
  have iK:(getObj B.b).run P w=.ok (.chan c buf false s q false) w:=by simp[getObj,Sem.run,hb]
  refine⟨.int .i64 (buf.size:Int),?_,by rw[IG];exact .eE _ _ (.int _ _)⟩
  simp only[execOp,ho,resolve,Sem.run_bind,Sem.run_pure,Result.andThen_ok,invoke,builtin,Array.map,hu]
  simp[Builtin.len_,run_underlying ht,goInt,hu,iK]
 ·cases hv
end
end Go.Proofs.YtalkncaokeaifaaGreatDoor.V

namespace Go.Proofs.YtalkncaokeaifaaGreatDoor.V
open Go.RowKit
variable {P:Program} {w w':World} {D D':Nat->Prop} {ι ι':Names}
def MJ (P:Program) (a:Act) (o:Oper) (w:World) (D:Nat->Prop) (ι:Names) (id:Id) (v:AV):Option Row->Prop
 |none=>nP P a o w D ι v
 |some r=>Mk P a o w D ι id v r∨MkM P a o w id v r∨MkC P a o w id v r
section
variable {g:Rows} {hs:Nat} {env:Env} {a:Act} {o:Oper} {id:Id} {v:AV}
theorem kJ {x:Option AV} {mr:Option Row} (h:x.map (·,(none:Option Row))=some (v,mr)) (H:x=some v->nP P a o w D ι v):MJ P a o w D ι id v mr:=by
 cases x with
 |none=>simp at h
 |some y=>simp at h;obtain⟨rfl,rfl⟩:=h;exact H rfl
theorem Vo {neg:Bool} {t yt:TypeId} {x y:Operand} {vo:gD} {mr:Option Row} (ho:o.op=.binOp (if neg then .neq else .eql) t x y yt) (hc:sy P neg t x y=some vo) (hq:dS vo (cZ env) g id=some (v,mr)) (E:dh P w D ι env a):MJ P a o w D ι id v mr:=by
 unfold sy at hc
 split at hc
 ·split at hc
  ·rename_i e ht
   simp only[Option.map_eq_some_iff]at hc
   obtain⟨x',hx,rfl⟩:=hc
   simp only[dS,dq,Bool.false_eq_true,if_false,Option.map_eq_some_iff,Prod.mk.injEq]at hq
   obtain⟨b,hb,rfl,rfl⟩:=hq
   exact Sj E ho ht hx hb
  ·simp at hc
 ·split at hc
  ·rename_i ht
   simp only[Option.map_eq_some_iff]at hc
   obtain⟨x',hx,rfl⟩:=hc
   simp only[dS,dq,if_true,Option.map_eq_some_iff,Prod.mk.injEq]at hq
   obtain⟨b,hb,rfl,rfl⟩:=hq
   exact Si E ho ht hx hb
  ·simp at hc
 ·split at hc
  ·rename_i ht
   simp only[Option.map_eq_some_iff]at hc
   obtain⟨x',hx,rfl⟩:=hc
   simp only[dS,Option.map_eq_some_iff,Prod.mk.injEq]at hq
   obtain⟨b,hb,rfl,rfl⟩:=hq
   exact V1 E ho ht hx hb
  ·simp at hc
 ·split at hc
  ·rename_i s hs
   simp only[Option.bind_eq_bind,Option.bind_eq_some_iff,Option.pure_def,Option.some.injEq]at hc
   obtain⟨x',hx,y',hy,rfl⟩:=hc
   simp only[dS,Option.map_eq_some_iff,Prod.mk.injEq]at hq
   obtain⟨b,hb,rfl,rfl⟩:=hq
   have Ct:fM P t=some s:=by
    unfold Xn at hs
    split at hs
    ·rename_i s' h;simp at hs;subst hs;exact h
    ·split at hs
     ·split at hs
      ·simp at hs
      ·simp at hs
     ·simp at hs
   exact V2 E ho Ct hx hy hb
  ·rename_i ts hs
   simp only[Option.bind_eq_bind,Option.bind_eq_some_iff,Option.pure_def,Option.some.injEq]at hc
   obtain⟨x',hx,y',hy,rfl⟩:=hc
   simp only[dS]at hq
   split at hq
   ·rename_i xs ys h1 h2
    simp only[Option.map_eq_some_iff,Prod.mk.injEq]at hq
    obtain⟨b,hb,rfl,rfl⟩:=hq
    unfold Xn at hs
    split at hs
    ·simp at hs
    ·split at hs
     ·rename_i fs rl
      split at hs
      ·rename_i hg
       simp only[Option.map_eq_some_iff,Xa.ag.injEq]at hs
       obtain⟨MB,qE,rfl⟩:=hs
       simp only[Bool.and_eq_true,Bool.not_eq_true']at hg
       exact V0 E ho rl hg.1 hg.2 qE hx hy h1 h2 hb
      ·simp at hs
     ·simp at hs
   ·simp at hq
  ·simp at hc
theorem RM {c:Call} {vo:gD} {mr:Option Row} (ho:o.op=.call c) (hc:np P c=some vo) (hq:dS vo (cZ env) g id=some (v,mr)) (S:fZ P hs D ι g w) (E:dh P w D ι env a):MJ P a o w D ι id v mr:=by
 unfold np at hc
 split at hc
 ·rename_i j9
  split at hc
  ·rename_i x t h1 h2
   have hce:c={callee:=.builtin .len,args:= #[x],argTypes:= #[t]}:=by
    obtain⟨a,b,c⟩:=c
    simp only at h1 h2 j9
    subst j9
    congr
    ·exact Array.ext' h1
    ·exact Array.ext' h2
   rw[hce]at ho
   split at hc
   ·rename_i e ht
    simp only[Option.map_eq_some_iff]at hc
    obtain⟨x',hx,rfl⟩:=hc
    simp only[dS,Option.map_eq_some_iff,Prod.mk.injEq]at hq
    obtain⟨n,hn,rfl,rfl⟩:=hq
    exact V3 E ho ht hx hn
   ·rename_i ht
    simp only[Option.map_eq_some_iff]at hc
    obtain⟨x',hx,rfl⟩:=hc
    exact kJ hq fun h=>Sq E ho ht hx h
   ·split at hc
    ·rename_i m z x' hm hx
     simp only[Option.some.injEq]at hc
     subst hc
     obtain⟨rfl,h⟩:=Sw (id:=id) S E ho hm hx hq
     exact h
    ·cases hc
   ·rename_i ht
    simp only[Option.map_eq_some_iff]at hc
    obtain⟨x',hx,rfl⟩:=hc
    exact kJ hq fun h=>Sp S E ho ht hx h
   ·simp at hc
  ·simp at hc
 ·split at hc
  ·split at hc
   ·split at hc
    ·split at hc
     ·simp only[Option.bind_eq_bind,Option.bind_eq_some_iff,Option.pure_def,Option.some.injEq]at hc
      obtain⟨x',hx,y',hy,rfl⟩:=hc
      simp[dS]at hq
     ·simp at hc
    ·simp at hc
   ·simp at hc
  ·simp at hc
 ·split at hc
  ·split at hc
   ·split at hc
    ·simp only[Option.map_eq_some_iff]at hc
     obtain⟨x',hx,rfl⟩:=hc
     simp[dS]at hq
    ·simp at hc
   ·simp at hc
  ·simp at hc
 ·split at hc
  ·simp only[Option.map_eq_some_iff]at hc
   obtain⟨x',hx,rfl⟩:=hc
   simp[dS]at hq
  ·simp at hc
 ·simp only[Option.map_eq_some_iff]at hc
  obtain⟨x',hx,rfl⟩:=hc
  simp[dS]at hq
 ·split at hc
  ·split at hc
   ·simp only[Option.some.injEq]at hc
    subst hc
    simp[dS]at hq
   ·cases hc
  ·cases hc
 ·split at hc
  ·split at hc
   ·split at hc
    ·simp only[Option.bind_eq_bind,Option.bind_eq_some_iff,Option.pure_def,Option.some.injEq]at hc
     obtain⟨x',hx,y',hy,rfl⟩:=hc
     simp[dS]at hq
    ·simp at hc
   ·simp at hc
  ·simp at hc
 ·simp at hc
theorem zI {vo:gD} {mr:Option Row} (hc:qC P o.op=some vo) (hq:dS vo (cZ env) g id=some (v,mr)) (S:fZ P hs D ι g w) (E:dh P w D ι env a):MJ P a o w D ι id v mr:=by
 unfold qC at hc
 split at hc
 ·rename_i ho
  simp only[Option.map_eq_some_iff]at hc
  obtain⟨x',hx,rfl⟩:=hc
  simp[dS]at hq;obtain⟨rfl,rfl⟩:=hq
  exact P3 E (.inl ho) hx
 ·rename_i ho
  simp only[Option.map_eq_some_iff]at hc
  obtain⟨x',hx,rfl⟩:=hc
  simp[dS]at hq;obtain⟨rfl,rfl⟩:=hq
  exact P3 E (.inr ho) hx
 ·rename_i ho
  simp only[Option.bind_eq_bind,Option.bind_eq_some_iff,Option.pure_def,Option.some.injEq]at hc
  obtain⟨c',h1,x',h2,y',h3,rfl⟩:=hc
  exact kJ hq fun h=>Sx E ho h1 h2 h3 h
 ·rename_i ho
  simp only[Option.map_eq_some_iff]at hc
  obtain⟨z,hz,rfl⟩:=hc
  simp only[dS,Option.some.injEq,Prod.mk.injEq]at hq
  obtain⟨rfl,rfl⟩:=hq
  exact .inl (Ve ho hz)
 ·rename_i ho
  simp only[Option.map_eq_some_iff]at hc
  obtain⟨x',hx,rfl⟩:=hc
  simp only[dS,Option.map_eq_some_iff,Prod.mk.injEq]at hq
  obtain⟨cs,dW,rfl,rfl⟩:=hq
  exact .inl (Vc E ho hx dW)
 ·rename_i ho
  split at hc
  ·rename_i hh
   simp only[Option.some.injEq]at hc
   subst hc
   exact kJ hq fun h=>OU S ho hh.1 hh.2 h
  ·simp at hc
 ·rename_i ho
  simp only[Option.bind_eq_bind,Option.bind_eq_some_iff,Option.pure_def,Option.some.injEq]at hc
  obtain⟨ag,h1,n,h2,x',h3,rfl⟩:=hc
  exact kJ hq fun h=>Sr S E ho h1 h2 h3 h
 ·rename_i ho
  simp only[Option.bind_eq_bind,Option.bind_eq_some_iff,Option.pure_def,Option.some.injEq]at hc
  obtain⟨n,h2,x',h3,y',h4,rfl⟩:=hc
  simp[dS]at hq
 ·rename_i ho
  simp only[Option.map_eq_some_iff]at hc
  obtain⟨x',hx,rfl⟩:=hc
  exact kJ hq fun h=>VZ E ho hx h
 ·rename_i op t x y yt ho
  unfold vp at hc
  split at hc
  ·exact Vo (neg:=false) ho hc hq E
  ·exact Vo (neg:=true) ho hc hq E
  ·simp only[Option.bind_eq_bind,Option.bind_eq_some_iff,Option.pure_def,Option.some.injEq]at hc
   obtain⟨x',h3,y',h4,rfl⟩:=hc
   exact kJ hq fun h=>V6 (left:=true) E ho h3 h4 h
  ·simp only[Option.bind_eq_bind,Option.bind_eq_some_iff,Option.pure_def,Option.some.injEq]at hc
   obtain⟨x',h3,y',h4,rfl⟩:=hc
   exact kJ hq fun h=>V6 (left:=false) E ho h3 h4 h
  ·rename_i n1 n2 n3 n4
   split at hc
   ·simp only[Option.bind_eq_bind,Option.bind_eq_some_iff,Option.pure_def,Option.some.injEq]at hc
    obtain⟨x',h3,y',h4,rfl⟩:=hc
    exact kJ hq fun h=>VY E ho n1 n2 h3 h4 h
   ·simp only[Option.bind_eq_bind,Option.bind_eq_some_iff,Option.pure_def,Option.some.injEq]at hc
    obtain⟨x',h3,y',h4,rfl⟩:=hc
    exact kJ hq fun h=>Sg E ho n1 n2 h3 h4 h
   ·simp at hc
 ·rename_i ho
  simp only[Option.map_eq_some_iff]at hc
  obtain⟨x',hx,rfl⟩:=hc
  exact kJ hq fun h=>V5 E ho hx h
 ·rename_i ho
  simp only[Option.map_eq_some_iff]at hc
  obtain⟨x',hx,rfl⟩:=hc
  exact kJ hq fun h=>V4 E ho hx h
 ·rename_i ho
  split at hc
  ·rename_i q k h1 h2
   simp only[Option.map_eq_some_iff]at hc
   obtain⟨x',hx,rfl⟩:=hc
   exact kJ hq fun h=>Sh E ho h1 h2 hx h
  ·rename_i h1 h2
   simp only[Option.map_eq_some_iff]at hc
   obtain⟨x',hx,rfl⟩:=hc
   exact kJ hq fun h=>by
    have hr:=dM E hx
    unfold br at h
    split at h
    ·rename_i s hb
     simp at h;subst h
     rw[hb]at hr
     exact⟨.string s,by simp only[execOp,ho,fU hr,convert,Sem.run_bind,run_underlying h1,run_underlying h2,Result.andThen_ok,Sem.run_pure],.eE _ _ (.str _)⟩
    ·simp at h
  ·simp at hc
 ·rename_i ho
  split at hc
  ·rename_i e ht
   simp only[Option.bind_eq_bind,Option.bind_eq_some_iff,Option.pure_def,Option.some.injEq]at hc
   obtain⟨n,h1,x',h2,lo,h3,hi,h4,rfl⟩:=hc
   exact kJ hq fun h=>OX S E ho ht h1 h2 h3 h4 h
  ·rename_i ht
   simp only[Option.bind_eq_bind,Option.bind_eq_some_iff,Option.pure_def,Option.some.injEq]at hc
   obtain⟨x',h2,lo,h3,hi,h4,rfl⟩:=hc
   exact kJ hq fun h=>Mj E ho ht h2 h3 h4 h
  ·simp at hc
 ·rename_i ho
  split at hc
  ·rename_i fs rl
   split at hc
   ·rename_i f hf
    split at hc
    ·rename_i m hm
     simp only[Option.map_eq_some_iff]at hc
     obtain⟨x',hx,rfl⟩:=hc
     exact kJ hq fun h=>OR E ho rl hf hm hx h
    ·simp at hc
   ·simp at hc
  ·simp at hc
 ·rename_i ho
  split at hc
  ·rename_i fs rl
   split at hc
   ·rename_i f hf
    simp only[Option.bind_eq_bind,Option.bind_eq_some_iff,Option.pure_def,Option.some.injEq]at hc
    obtain⟨ag,h1,n,h2,x',h3,rfl⟩:=hc
    exact kJ hq fun h=>OS E ho rl hf h1 h2 h3 h
   ·simp at hc
  ·simp at hc
 ·rename_i ho
  split at hc
  ·rename_i e ht
   split at hc
   ·rename_i m hm
    simp only[Option.bind_eq_bind,Option.bind_eq_some_iff,Option.pure_def,Option.some.injEq]at hc
    obtain⟨x',h1,i',h2,rfl⟩:=hc
    exact kJ hq fun h=>OV S E ho ht hm h1 h2 h
   ·simp at hc
  ·rename_i len e ht
   split at hc
   ·rename_i m hm
    simp only[Option.bind_eq_bind,Option.bind_eq_some_iff,Option.pure_def,Option.some.injEq]at hc
    obtain⟨x',h1,i',h2,rfl⟩:=hc
    exact kJ hq fun h=>Sk E ho ht hm h1 h2 h
   ·simp at hc
  ·simp at hc
 ·rename_i ho
  split at hc
  ·rename_i ht
   simp only[Option.bind_eq_bind,Option.bind_eq_some_iff,Option.pure_def,Option.some.injEq]at hc
   obtain⟨x',h1,i',h2,rfl⟩:=hc
   exact kJ hq fun h=>Sn E ho ht h1 h2 h
  ·rename_i len e ht
   simp only[Option.bind_eq_bind,Option.bind_eq_some_iff,Option.pure_def,Option.some.injEq]at hc
   obtain⟨ag,h0,n,h1,x',h2,i',h3,rfl⟩:=hc
   exact kJ hq fun h=>Sm E ho ht h0 h1 h2 h3 h
  ·simp at hc
 ·rename_i ho
  simp only[Option.map_eq_some_iff]at hc
  obtain⟨x',hx,rfl⟩:=hc
  exact kJ hq fun h=>Iv E ho hx h
 ·rename_i ho
  split at hc
  ·rename_i fs rl
   split at hc
   ·rename_i z l hz hl
    split at hc
    ·rename_i eI
     simp only[Option.map_eq_some_iff]at hc
     obtain⟨q,NK,rfl⟩:=hc
     simp only[dS,Option.map_eq_some_iff,Prod.mk.injEq]at hq
     obtain⟨cs,dW,rfl,rfl⟩:=hq
     exact OQ E ho rl hz hl (fun f hf=>by
      rw[Array.all_eq_true_iff_forall_mem]at eI
      exact eI f (Array.mem_toList_iff.1 hf)) NK dW
    ·simp at hc
   ·simp at hc
  ·rename_i len e ht
   split at hc
   ·rename_i z l n hz hl hn
    simp only[Option.some.injEq]at hc
    subst hc
    simp only[dS,Option.map_eq_some_iff,Prod.mk.injEq]at hq
    obtain⟨cs,dW,rfl,rfl⟩:=hq
    exact Mi E ho ht hz hl hn dW
   ·simp at hc
  ·simp at hc
 ·rename_i ho
  split at hc
  ·rename_i e ht
   split at hc
   ·rename_i sz z l h1 h2 h3
    split at hc
    ·rename_i hh
     simp only[Option.some.injEq]at hc
     subst hc
     simp only[dS,Option.map_eq_some_iff,Prod.mk.injEq]at hq
     obtain⟨rs,za,rfl,rfl⟩:=hq
     exact .inl (KO E ho ht h1 h2 h3 hh.1 hh.2 (by rw[List.map_map]at za;exact za))
    ·simp at hc
   ·simp at hc
  ·simp at hc
 ·rename_i ho
  split at hc
  ·rename_i hh
   simp only[Option.map_eq_some_iff]at hc
   obtain⟨l,hl,rfl⟩:=hc
   simp[dS]at hq;obtain⟨rfl,rfl⟩:=hq
   exact Su E ho hh.1 hh.2 hl
  ·split at hc
   ·rename_i hh
    simp only[Option.map_eq_some_iff]at hc
    obtain⟨l,hl,rfl⟩:=hc
    simp[dS]at hq;obtain⟨rfl,rfl⟩:=hq
    exact Sv E ho hh.1 hh.2 hl
   ·simp at hc
 ·rename_i ho
  split at hc
  ·rename_i e ht
   split at hc
   ·rename_i m z i h1 h2 h3
    split at hc
    ·rename_i hb
     simp only[Option.bind_eq_bind,Option.bind_eq_some_iff,Option.pure_def,Option.some.injEq]at hc
     obtain⟨l',h4,c',h5,rfl⟩:=hc
     simp only[dS,Option.map_eq_some_iff,Prod.mk.injEq]at hq
     obtain⟨⟨n,r⟩,hr,rfl,rfl⟩:=hq
     exact .inl (HO E ho ht h1 h2 h3 hb h4 h5 hr)
    ·simp at hc
   ·simp at hc
  ·simp at hc
 ·rename_i ho
  exact RM ho hc hq S E
 ·rename_i ho
  split at hc
  ·rename_i dir e ht
   split at hc
   ·rename_i i hi
    split at hc
    ·rename_i hb
     simp only[Option.map_eq_some_iff]at hc
     obtain⟨x',hx,rfl⟩:=hc
     simp only[dS,Option.map_eq_some_iff,Prod.mk.injEq]at hq
     obtain⟨n,hn,rfl,rfl⟩:=hq
     exact .inr (.inr (RG E ho ht hi hb hx hn))
    ·cases hc
   ·cases hc
  ·cases hc
 ·simp only[Option.bind_eq_bind,Option.bind_eq_some_iff,Option.pure_def,Option.some.injEq]at hc
  obtain⟨x',_,y',_,rfl⟩:=hc
  simp[dS]at hq
 ·split at hc
  ·split at hc
   ·simp only[Option.map_eq_some_iff]at hc
    obtain⟨x',_,rfl⟩:=hc
    simp[dS]at hq
   ·cases hc
  ·cases hc
 ·rename_i ho
  split at hc
  ·rename_i m z hm
   simp only[Option.some.injEq]at hc
   subst hc
   simp only[dS,List.map_nil,aW,Option.some.injEq,Prod.mk.injEq]at hq
   obtain⟨rfl,rfl⟩:=hq
   exact .inr (.inl (Vd ho))
  ·cases hc
 ·rename_i ho
  split at hc
  ·rename_i m z x' k' hm hx hk
   simp only[Option.some.injEq]at hc
   subst hc
   obtain⟨rfl,h⟩:=Ss (id:=id) S E ho hm hx hk hq
   exact h
  ·cases hc
 ·split at hc
  ·simp only[Option.some.injEq]at hc
   subst hc
   simp[dS]at hq
  ·cases hc
 ·split at hc
  ·simp only[Option.some.injEq]at hc
   subst hc
   simp[dS]at hq
  ·cases hc
 ·simp only[Option.some.injEq]at hc
  subst hc
  simp[dS]at hq
 ·simp only[Option.some.injEq]at hc
  subst hc
  simp[dS]at hq
 ·simp at hc
end
end Go.Proofs.YtalkncaokeaifaaGreatDoor.V

namespace Go.Proofs.YtalkncaokeaifaaGreatDoor.V
open Go.RowKit
variable {P:Program} {w w':World} {D D':Nat->Prop} {ι ι':Names}
def jx (ι:Names) (id:Id) (B:sr):Names:=fun i=>if i=id then some B else ι i
theorem eh (ι:Names) (id:Id) (B:sr):jx ι id B id=some B:=if_pos rfl
theorem eZ {ι:Names} {id:Id} {B:sr} (h:ι id=none):∀i B',ι i=some B'->jx ι id B i=some B':=fun i B' hi=>by
 have:i≠id:=by rintro rfl;rw[h]at hi;cases hi
 rw[jx,if_neg this];exact hi
theorem gq {ι:Names} {id i:Id} {B:sr} (h:i≠id):jx ι id B i=ι i:=if_neg h
section
variable {g:Rows} {hs:Nat} {env:Env} {a:Act} {o:Oper} {id:Id} {v:AV}
theorem jO.frame {B:sr} {r:Row} (h:jO P w D ι B r) (hb:w'.heap[B.b]? =w.heap[B.b]?) (hr:∀a v,dE P w D ι a v->dE P w' D' ι' a v):jO P w' D' ι' B r:=
 ⟨h.sz,by obtain⟨c,T,h1,h2⟩:=h.si;exact⟨c,T,hb.trans h1,h2⟩,h.fits,h.len,h.flat,fun i j cs a hi hj=>by
  obtain⟨v,h1,h2⟩:=h.at_ i j cs a hi hj
  exact⟨v,(World.cell?_of_block (a:=⟨B.b,i*r.sz+j,none⟩) hb).trans h1,hr _ _ h2⟩⟩
theorem gC.frame {B:sr} {r:Row} (h:gC P w D ι B r) (hb:w'.heap[B.b]? =w.heap[B.b]?) (hr:∀a v,dE P w D ι a v->dE P w' D' ι' a v):gC P w' D' ι' B r:=
 ⟨h.sz,h.flat,fun hk=>(h.row hk).frame hb hr,fun m hm=>by
  obtain⟨h1,es,c,h2,h3,h5,h4⟩:=h.map m hm
  refine⟨h1,es,c,hb.trans h2,h3,h5,fun i cs hi=>?_⟩
  obtain⟨e,kv,vv,q1,q2,q3,q4,q5⟩:=h4 i cs hi
  exact⟨e,kv,vv,q1,q2,q3,hr _ _ q4,hr _ _ q5⟩,fun c hc=>by
  obtain⟨h1,buf,s,q,h2,h3,h4⟩:=h.chan c hc
  refine⟨h1,buf,s,q,hb.trans h2,h3,fun i cs hi=>?_⟩
  obtain⟨a,u,q1,q2,q3⟩:=h4 i cs hi
  exact⟨a,u,q1,q2,hr _ _ q3⟩⟩
theorem fZ.kill (S:fZ P hs D ι g w) (i:Id):fZ P hs D ι (bx g i) w:=by
 refine⟨S.lo,S.dead,fun id r h=>?_,fun id jR r r' B B' h h' hw hB ef hb=>?_⟩
 ·unfold bx at h;split at h
  ·cases h
  ·exact S.row id r h
 ·unfold bx at h h'
  split at h
  ·cases h
  ·split at h'
   ·cases h'
   ·exact S.inj id jR r r' B B' h h' hw hB ef hb
theorem fZ.sub {g':Rows} (S:fZ P hs D ι g w) (h:∀id r,g' id=some r->g id=some r):fZ P hs D ι g' w:=
 ⟨S.lo,S.dead,fun id r hr=>S.row id r (h id r hr),fun id jR r r' B B' h1 h2=>S.inj id jR r r' B B' (h _ _ h1) (h _ _ h2)⟩
theorem Bj {hid:List Nat} {n:Nat} {g:Rows}:∀id r,ev hid n g id=some r->g id=some r:=fun id r h=>by
 cases hid with
 |nil=>exact h
 |cons a l=>
  have e:ev (a::l) n g id=if (a::l).contains id.site=true/\id.cV=n then none else g id:=rfl
  rw[e]at h
  by_cases hc:(a::l).contains id.site=true/\id.cV=n
  ·rw[if_pos hc]at h;cases h
  ·rw[if_neg hc]at h;exact h
theorem fZ.stay (S:fZ P hs D ι g w) (hb:∀b,b<w.heap.size->w'.heap[b]? =w.heap[b]?) (hz:w.heap.size<=w'.heap.size) (hD:∀b,D b->D' b) (hD':∀b,D' b->b<w'.heap.size) (jC:∀b,D' b->D b∨w.heap.size<=b) (hι:∀id B,ι id=some B->ι' id=some B):fZ P hs D' ι' g w':=by
 have hr:∀a v,dE P w D ι a v->dE P w' D' ι' a v:=fun a v h=>h.frame (fun b hd=>hb b (S.dead b hd)) hD hι
 have lt:∀{id r B},g id=some r->ι id=some B->B.b<w.heap.size:=fun {id r B} h hB=>by
  obtain⟨B',ef,R,_⟩:=S.row id r h
  rw[hB]at ef;injection ef with ef;subst ef
  exact R.lt
 refine⟨Nat.le_trans S.lo hz,hD',fun id r h=>?_,fun id jR r r' B B' h h' hw hB ef he=>?_⟩
 ·obtain⟨B,hB,R,h1,h2⟩:=S.row id r h
  exact⟨B,hι _ _ hB,R.frame (hb _ (lt h hB)) hr,h1,fun hw hd=>by
   rcases jC _ hd with hd|hd
   ·exact h2 hw hd
   ·have:=lt h hB;omega⟩
 ·obtain⟨C,hC,_⟩:=S.row id r h
  obtain⟨C',uj,_⟩:=S.row jR r' h'
  have e1:=hι _ _ hC
  have e2:=hι _ _ uj
  rw[hB]at e1;injection e1 with e1;subst e1
  rw[ef]at e2;injection e2 with e2;subst e2
  exact S.inj id jR r r' _ _ h h' hw hC uj he
theorem Step.stay (S:fZ P hs D ι g w) (hb:∀b,b<w.heap.size->w'.heap[b]? =w.heap[b]?) (hz:w.heap.size<=w'.heap.size) (e1:w'.os=w.os) (e2:w'.tape=w.tape) (e3:w'.output=w.output) (hD:∀b,D b->D' b) (jC:∀b,D' b->D b∨w.heap.size<=b) (hι:∀id B,ι id=some B->ι' id=some B):Step hs D ι w D' ι' w':=
 ⟨⟨e1,e2,e3,hz,fun k hk=>hb k (Nat.lt_of_lt_of_le hk S.lo)⟩,fun b hd=>hb b (S.dead b hd),hD,hι,fun b h=>(jC b h).imp_right (Nat.le_trans S.lo)⟩
theorem fZ.alloc (S:fZ P hs D ι g w) {cells:Array Value} {T:TypeId} {r:Row} (hh:w'.heap=w.heap.push (.cells cells T (0,0))) (hn:ι id=none) (hw:r.w=true) (h1:r.rows.length*r.sz<=cells.size) (h2:∀cs∈r.rows,cs.length=r.sz) (h3:∀cs∈r.rows,∀a∈cs,a.cell=true)
  (h4:∀i j cs a,r.rows[i]? =some cs->cs[j]? =some a->∃x,cells[i*r.sz+j]? =some x/\dE P w D ι a x):fZ P hs D (jx ι id ⟨w.heap.size,r.sz,cells.size,none⟩) (bz g id r) w':=by
 have hb:∀b,b<w.heap.size->w'.heap[b]? =w.heap[b]? :=fun b eJ=>by rw[hh,Array.getElem?_push,if_neg ab]
 have hz:w.heap.size<=w'.heap.size:=by rw[hh];simp
 have S':=S.stay (D':=D) (ι':=jx ι id ⟨w.heap.size,r.sz,cells.size,none⟩) hb hz (fun _ h=>h) (fun b hd=>Nat.lt_of_lt_of_le (S.dead b hd) hz) (fun _ h=>.inl h) (eZ hn)
 have hr:∀a v,dE P w D ι a v->dE P w' D (jx ι id ⟨w.heap.size,r.sz,cells.size,none⟩) a v:=fun a v h=>h.frame (fun b hd=>hb b (S.dead b hd)) (fun _ h=>h) (eZ hn)
 have jC:w'.heap[w.heap.size]? =some (.cells cells T (0,0)):=by rw[hh];simp
 have gone:g id=none:=by
  cases hg:g id with
  |none=>rfl
  |some q=>
   obtain⟨B,hB,_⟩:=S.row id q hg
   rw[hn]at hB;cases hB
 have lt:∀{i q B},g i=some q->ι i=some B->B.b<w.heap.size:=fun {i q B} h hB=>by
  obtain⟨B',ef,R,_⟩:=S.row i q h
  rw[hB]at ef;injection ef with ef;subst ef
  exact R.lt
 refine⟨S'.lo,S'.dead,fun i q h=>?_,fun i i' q q' B B' h h' Km hB ef he=>?_⟩
 ·unfold bz at h
  split at h
  ·rename_i e
   subst e
   injection h with h;subst h
   refine⟨_,eh _ _ _,jO.obj ⟨rfl,⟨cells,T,jC,rfl⟩,h1,h2,h3,fun k j cs a hk hj=>?_⟩ rfl,fun _=>S.lo,fun _ hd=>?_⟩
   ·obtain⟨x,hx,hrx⟩:=h4 k j cs a hk hj
    exact⟨x,by simp[World.cell?,jC,hx],hr _ _ hrx⟩
   ·have:=S.dead _ hd;simp at this
  ·exact S'.row i q h
 ·unfold bz at h h'
  split at h
  ·rename_i e
   split at h'
   ·rename_i e';exact e.trans e'.symm
   ·exfalso
    rename_i e'
    subst e
    rw[eh]at hB;injection hB with hB;subst hB
    rw[gq e']at ef
    have:=lt h' ef
    simp at he;omega
  ·rename_i e
   split at h'
   ·exfalso
    rename_i e'
    subst e'
    rw[eh]at ef;injection ef with ef;subst ef
    rw[gq e]at hB
    have:=lt h hB
    simp at he;omega
   ·exact S'.inj i i' q q' B B' h h' Km hB ef he
theorem fZ.put (S:fZ P hs D ι g w) {r r':Row} {B:sr} {cur cur':Array Value} {T:TypeId} (hid:g id=some r) (hw:r.w=true) (hB:ι id=some B) (hblk:w.heap[B.b]? =some (.cells cur T (0,0))) (fc:cur'.size=cur.size)
  (h0:r'.w=true) (h1:r'.sz=r.sz) (h2:r'.rows.length*r'.sz<=B.C) (h3:∀cs∈r'.rows,cs.length=r'.sz) (h4:∀cs∈r'.rows,∀a∈cs,a.cell=true)
  (h5:∀i j cs a,r'.rows[i]? =some cs->cs[j]? =some a->∃v,cur'[i*r.sz+j]? =some v/\dE P w D ι a v):fZ P hs D ι (bz g id r') (w.setRow B.b cur')/\Step hs D ι w D ι (w.setRow B.b cur'):=by
 obtain⟨B0,yd,RO,k6,po⟩:=S.row id r hid
 rw[hB]at yd;injection yd with yd;subst yd
 have oJ:=RO.N9 hblk
 have R:=RO.row oJ
 have hd:∀b,D b->(w.setRow B.b cur').heap[b]? =w.heap[b]? :=fun b hb=>setRow_other w B.b b cur' (by rintro rfl;exact po hw hb)
 have hr:∀a v,dE P w D ι a v->dE P (w.setRow B.b cur') D ι a v:=fun a v h=>h.frame hd (fun _ h=>h) (fun _ _ h=>h)
 have hC:cur.size=B.C:=by
  obtain⟨c,T',h1,h2⟩:=R.si
  rw[hblk]at h1;injection h1 with h1;injection h1 with h1 h1';subst h1;exact h2
 refine⟨⟨by simpa using S.lo,fun b hb=>by simpa using S.dead b hb,fun i q h=>?_,fun i i' q q' C C' h h' Km hC uj he=>?_⟩,⟨⟨by simp,by simp,by simp,by simp,fun k hk=>setRow_other w B.b k cur' (by have:=k6 hw;omega)⟩,hd,fun _ h=>h,fun _ _ h=>h,fun _ h=>.inl h⟩⟩
 ·unfold bz at h
  split at h
  ·rename_i e
   subst e
   injection h with h;subst h
   refine⟨B,hB,jO.obj ⟨by rw[h1];exact R.sz,⟨cur',T,setRow_heap w B.b cur cur' T _ hblk,by rw[fc];exact hC⟩,h2,h3,h4,fun k j cs a hk hj=>?_⟩ oJ,fun _=>k6 hw,fun _=>po hw⟩
   obtain⟨v,hv,nT⟩:=h5 k j cs a hk hj
   exact⟨v,by rw[cell_setRow_same w B.b _ cur cur' T _ hblk,h1];exact hv,hr _ _ nT⟩
  ·rename_i e
   obtain⟨C,hC,RC,k1,k2⟩:=S.row i q h
   refine⟨C,hC,RC.frame (setRow_other w B.b C.b cur' (fun Ds=>e ?_)) hr,k1,k2⟩
   exact(S.inj id i r q B C hid h hw hB hC Ds.symm).symm
 ·unfold bz at h h'
  have get:∀j p,(if j=id then some r' else g j)=some p->∃p0,g j=some p0/\(p.w=true->p0.w=true):=fun j p hp=>by
   split at hp
   ·rename_i e;subst e;injection hp with hp;subst hp;exact⟨r,hid,fun _=>hw⟩
   ·exact⟨p,hp,fun h=>h⟩
  obtain⟨p,hp,SR⟩:=get _ _ h
  obtain⟨p',Rb,_⟩:=get _ _ h'
  exact S.inj i i' p p' C C' hp Rb (SR Km) hC uj he
theorem fZ.rename (S:fZ P hs D ι g w) {i:Id} {r:Row} {B:sr} (hi:g i=some r) (hw:r.w=true) (hB:ι i=some B) (hn:ι id=none):fZ P hs D (jx ι id B) (bz (bx g i) id r) w:=by
 have S':=S.stay (w':=w) (D':=D) (ι':=jx ι id B) (fun _ _=>rfl) (Nat.le_refl _) (fun _ h=>h) S.dead (fun _ h=>.inl h) (eZ hn)
 have gZ:i≠id:=by rintro rfl;rw[hn]at hB;cases hB
 obtain⟨B1,Bp,R,k1,k2⟩:=S'.row i r hi
 rw[gq gZ,hB]at Bp;injection Bp with Bp;subst Bp
 have get:∀j p,bz (bx g i) id r j=some p->(j=id/\p=r)∨(j≠id/\j≠i/\g j=some p):=fun j p hp=>by
  unfold bz bx at hp
  split at hp
  ·rename_i e;injection hp with hp;exact .inl ⟨e,hp.symm⟩
  ·rename_i e
   split at hp
   ·cases hp
   ·rename_i e';exact .inr ⟨e,e',hp⟩
 refine⟨S.lo,S.dead,fun j p h=>?_,fun j j' p p' C C' h h' SR hC uj he=>?_⟩
 ·rcases get j p h with⟨rfl,rfl⟩|⟨_,_,hp⟩
  ·exact⟨B,eh _ _ _,R,k1,k2⟩
  ·exact S'.row j p hp
 ·rcases get j p h with⟨rfl,rfl⟩|⟨q1,q2,hp⟩
  ·rcases get j' p' h' with⟨rfl,rfl⟩|⟨q1',q2',Rb⟩
   ·rfl
   ·exfalso
    rw[eh]at hC;injection hC with hC;subst hC
    rw[gq q1']at uj
    exact q2' (S.inj i j' p p' B C' hi Rb hw hB uj he).symm
  ·rcases get j' p' h' with⟨rfl,rfl⟩|⟨q1',q2',Rb⟩
   ·exfalso
    rw[eh]at uj;injection uj with uj;subst uj
    rw[gq q1]at hC
    exact q2 (S.inj j i p p' C B hp hi SR hC hB he)
   ·rw[gq q1]at hC
    rw[gq q1']at uj
    exact S.inj j j' p p' C C' hp Rb SR hC uj he
def DE (P:Program) (hs:Nat) (a:Act) (o:Oper) (w:World) (D:Nat->Prop) (ι:Names) (id:Id) (v:AV) (g':Rows):Prop:=
 ∃u w' ι',((execOp a.eval o).run P w=.ok (.value u) w'∨(execOp a.eval o).run P w=.ok .skip w'/\u=undef)/\Step hs D ι w D ι' w'/\fZ P hs D ι' g' w'/\dE P w' D ι' v u/\∀i,i≠id->ι' i=ι i
theorem C4 {xs:List AV} {vs:Array Value} (h:fE P w D ι xs vs) (hf:∀a∈xs,a.cell=true):∀v∈vs.toList,v.oneCell'=true:=by
 intro v hv
 obtain⟨j,hj,rfl⟩:=List.getElem_of_mem hv
 have Mu:j<xs.length:=by rw[<-h.1];simpa using hj
 obtain⟨u,hu,hr⟩:=h.2 j _ (List.getElem?_eq_getElem Mu)
 have hc:=hr.BS (hf _ (List.getElem_mem Mu))
 have:vs.toList[j]=u:=by
  have:vs.toList[j]? =some u:=by simpa using hu
  rw[List.getElem?_eq_getElem hj]at this;injection this
 rw[this]
 cases u<;>simp_all [Value.oneCell']
theorem jF {i j n m:Nat} (h:i<n) (hj:j<m):i*m+j<n*m:=by
 have:(i+1)*m<=n*m:=Nat.mul_le_mul_right _ h
 rw[Nat.add_mul,Nat.one_mul]at this;omega
theorem jO.cur {B:sr} {r:Row} (R:jO P w D ι B r):∃cur T,w.heap[B.b]? =some (.cells cur T (0,0))/\cur.size=B.C/\∀i j cs a,r.rows[i]? =some cs->cs[j]? =some a->∃v,cur[i*r.sz+j]? =some v/\dE P w D ι a v:=by
 obtain⟨cur,T,h1,h2⟩:=R.si
 refine⟨cur,T,h1,h2,fun i j cs a hi hj=>?_⟩
 obtain⟨v,hv,hr⟩:=R.at_ i j cs a hi hj
 exact⟨v,by simpa[World.cell?,h1]using hv,hr⟩
theorem Nd {t:TypeId} {n:Nat} {x y:Operand} {x' y':O} {g':Rows} (S:fZ P hs D ι g w) (E:dh P w D ι env a) (ho:o.op=.store t x y) (hn:ej P t=some n) (hx:cO P x=some x') (hy:cO P y=some y')
  (hv:bq g n (cZ env y') (cZ env x')=some g'):DE P hs a o w D ι id .undef g':=by
 have rx:=dM E hx
 have ry:=dM E hy
 unfold bq at hv
 split at hv
 ·rename_i i k off hp
  rw[hp]at rx
  simp only[Option.bind_eq_some_iff]at hv
  obtain⟨r,hg,cs,dW,hv⟩:=hv
  split at hv
  ·rename_i hc
   obtain⟨c1,c2,c3,c4⟩:=hc
   simp at hv;subst hv
   obtain⟨B,he,hB,hk⟩:=gW rx
   obtain⟨B',ef,R,k6,po⟩:=S.row i r hg
   rw[hB]at ef;injection ef with ef;subst ef
   replace R:=R.row hk
   obtain⟨cur,T,hblk,hC,wa⟩:=R.cur
   have hL:=qx ry c3
   have h1:=C4 hL (List.all_eq_true.1 c3)
   have UZ:(a.eval y).cells.size=n:=by rw[hL.1,c2]
   have mN:=(List.getElem?_eq_some_iff.1 dW).1
   have hlen:=R.len cs (List.mem_of_getElem? dW)
   have hbound:k*r.sz+r.sz<=r.rows.length*r.sz:=by
    have:(k+1)*r.sz<=r.rows.length*r.sz:=Nat.mul_le_mul_right _ mN
    rwa [Nat.add_mul,Nat.one_mul]at this
   have hf:=R.fits
   have ed:=run_storeCells_at P B.b (k*B.sz+off) T (a.eval y).cells.toList 0 cur w hblk (by rw[R.sz];simp only[Array.length_toList];omega) h1
   simp only[Nat.add_zero,Array.length_toList]at ed
   have rq:=S.put (r':={r with rows:=r.rows.set k (bL cs off (cZ env y').cells)}) hg c1 hB hblk (cur':=(cur.toList.take (k*B.sz+off)++(a.eval y).cells.toList++cur.toList.drop (k*B.sz+off+(a.eval y).cells.size)).toArray)
    (by rw[R.sz];simp;omega) c1 rfl (by simpa using R.fits) (fun c Ub=>by
     rcases List.mem_or_eq_of_mem_set Ub with h|rfl
     ·exact R.len c h
     ·simp[bL];omega) (fun c Ub b hb=>by
     rcases List.mem_or_eq_of_mem_set Ub with h|rfl
     ·exact R.flat c h b hb
     ·unfold bL at hb
      rcases List.mem_append.1 hb with hb|hb
      ·rcases List.mem_append.1 hb with hb|hb
       ·exact R.flat cs (List.mem_of_getElem? dW) b (List.mem_of_mem_take hb)
       ·exact List.all_eq_true.1 c3 b hb
      ·exact R.flat cs (List.mem_of_getElem? dW) b (List.mem_of_mem_drop hb)) (fun i2 j c b wc hj=>by
     rw[R.sz]
     simp only[List.getElem?_toArray]
     by_cases Dt:i2=k
     ·subst Dt
      rw[List.getElem?_set_self mN]at wc
      injection wc with wc;subst wc
      unfold bL at hj
      by_cases hjo:j<off
      ·rw[List.append_assoc,List.getElem?_append_left (by simp;omega),List.getElem?_take,if_pos hjo]at hj
       rw[List.append_assoc,List.getElem?_append_left (by simp;omega),List.getElem?_take,if_pos ab]
       simpa using wa _ _ _ _ dW hj
      ·by_cases pO:j<off+n
       ·rw[List.append_assoc,List.getElem?_append_right (by simp;omega),List.getElem?_append_left (by simp;omega)]at hj
        rw[List.append_assoc,List.getElem?_append_right (by simp;omega),List.getElem?_append_left (by simp;omega)]
        simp only[List.length_take]at hj ⊢
        rw[show j-min off cs.length=j-off by omega]at hj
        rw[show i2*r.sz+j-min (i2*r.sz+off) cur.toList.length=j-off by simp;omega]
        simpa using hL.2 _ _ hj
       ·rw[List.getElem?_append_right (by simp;omega)]at hj
        rw[List.getElem?_append_right (by simp;omega)]
        simp only[List.length_append,List.length_take,List.getElem?_drop,Array.length_toList]at hj ⊢
        rw[show off+(cZ env y').cells.length+(j-(min off cs.length+(cZ env y').cells.length))=j by omega]at hj
        rw[show i2*r.sz+off+(a.eval y).cells.size+(i2*r.sz+j-(min (i2*r.sz+off) cur.size+(a.eval y).cells.size))=i2*r.sz+j by omega]
        simpa using wa _ _ _ _ dW hj
     ·rw[List.getElem?_set_ne (fun e=>Dt e.symm)]at wc
      have hi2l:=(List.getElem?_eq_some_iff.1 wc).1
      have ja:j<r.sz:=by rw[<-R.len c (List.mem_of_getElem? wc)];exact(List.getElem?_eq_some_iff.1 hj).1
      have:=wa _ _ _ _ wc hj
      rcases Nat.lt_or_gt_of_ne Dt with eJ|Nx
      ·have h2:i2*r.sz+j<k*r.sz:=jF eJ ja
       rw[List.append_assoc,List.getElem?_append_left (by simp;omega),List.getElem?_take,if_pos ab]
       simpa using this
      ·have h2:k*r.sz+r.sz<=i2*r.sz:=by
        have:(k+1)*r.sz<=i2*r.sz:=Nat.mul_le_mul_right _ Nx
        rwa [Nat.add_mul,Nat.one_mul]at this
       rw[List.getElem?_append_right (by simp;omega)]
       simp only[List.length_append,List.length_take,List.getElem?_drop,Array.length_toList]
       rw[show k*r.sz+off+(a.eval y).cells.size+(i2*r.sz+j-(min (k*r.sz+off) cur.size+(a.eval y).cells.size))=i2*r.sz+j by omega]
       simpa using this)
   refine⟨undef,_,ι,.inr ⟨?_,rfl⟩,rq.2,rq.1,dE.undef,fun _ _=>rfl⟩
   simp only[execOp,ho,he,Instr.storeAt,Instr.sureAddr,storeVar,Sem.run_bind,Sem.run_pure,Result.andThen_ok,run_sizeOf hn,UZ,ne_eq,not_true_eq_false,if_false,ed]
  ·simp at hv
 ·simp at hv
end
end Go.Proofs.YtalkncaokeaifaaGreatDoor.V

namespace Go.Proofs.YtalkncaokeaifaaGreatDoor.V
open Go.RowKit
variable {P:Program} {w w':World} {D D':Nat->Prop} {ι ι':Names}
section
variable {g:Rows} {hs:Nat} {env:Env} {a:Act} {o:Oper} {id:Id} {v:AV}
theorem rV (S:fZ P hs D ι g w) {y:AV} {u:Value} {ys:List (List AV)} {sz:Nat} (hr:dE P w D ι y u) (hy:aT g y=some ys) (hl:∀c∈ys,c.length=sz) (hf:∀c∈ys,∀b∈c,b.cell=true):
  ∃A c,u=.slice A ys.length c/\(ys=[]∨∃b o,∃news:List Value,A=some ⟨b,o,none⟩/\news.length=ys.length*sz/\(∀j v,news[j]? =some v->w.cell? ⟨b,o+j,none⟩=some v)/\fE P w D ι ys.flatten news.toArray/\∀v∈news,v.oneCell'=true):=by
 have fin:∀b o,ys≠[]->(∀i j cs x,ys[i]? =some cs->cs[j]? =some x->∃v,w.cell? ⟨b,o+(i*sz+j),none⟩=some v/\dE P w D ι x v)->
   ∃news:List Value,news.length=ys.length*sz/\(∀j v,news[j]? =some v->w.cell? ⟨b,o+j,none⟩=some v)/\fE P w D ι ys.flatten news.toArray/\∀v∈news,v.oneCell'=true:=by
  intro b o _ h
  have hlen:=JR hl
  have at_:∀k,k<ys.length*sz->∃x,ys.flatten[k]? =some x/\∃v,w.cell? ⟨b,o+k,none⟩=some v/\dE P w D ι x v:=by
   intro k hk
   have kC:0<sz:=by
    rcases Nat.eq_zero_or_pos sz with h0|h0
    ·subst h0;simp at hk
    ·exact h0
   have hi:k / sz<ys.length:=Nat.div_lt_of_lt_mul (by rw[Nat.mul_comm];exact hk)
   have hj:k % sz<sz:=Nat.mod_lt _ kC
   have dW:=List.getElem?_eq_getElem hi
   have ja:k % sz<ys[k / sz].length:=by rw[hl _ (List.getElem_mem hi)];exact hj
   have hx:=List.getElem?_eq_getElem ja
   have e:k / sz*sz+k % sz=k:=by rw[Nat.mul_comm];exact Nat.div_add_mod _ _
   refine⟨_,by rw[<-flat_get hl dW hx,e],?_⟩
   obtain⟨v,hv,nT⟩:=h _ _ _ _ dW hx
   rw[e]at hv
   exact⟨v,hv,nT⟩
  let news:=(List.range (ys.length*sz)).map fun k=>(w.cell? ⟨b,o+k,none⟩).getD undef
  have hn:∀k,k<ys.length*sz->∀v,w.cell? ⟨b,o+k,none⟩=some v->news[k]? =some v:=fun k hk v hv=>by
   simp only[news,List.getElem?_map,List.getElem?_range hk,Option.map_some,hv,Option.getD_some]
  have hR:fE P w D ι ys.flatten news.toArray:=⟨by simp[news,hlen],fun j x hx=>by
   have ja:=(List.getElem?_eq_some_iff.1 hx).1
   rw[hlen]at ja
   obtain⟨x',uK,v,hv,nT⟩:=at_ j ja
   rw[hx]at uK;injection uK with uK;subst uK
   exact⟨v,by simpa using hn j ja v hv,nT⟩⟩
  refine⟨news,by simp[news],fun j v hj=>?_,hR,?_⟩
  ·have ja:j<ys.length*sz:=by have:=(List.getElem?_eq_some_iff.1 hj).1;simpa[news]using this
   obtain⟨x,_,v',nO,_⟩:=at_ j ja
   rw[hn j ja v' nO]at hj
   injection hj with hj
   rw[<-hj];exact nO
  ·have:=C4 hR (fun x hx=>by
    obtain⟨c,hc,YO⟩:=List.mem_flatten.1 hx
    exact hf c hc x YO)
   simpa using this
 unfold aT at hy
 split at hy
 ·simp at hy;subst hy
  exact⟨none,0,iN hr,.inl rfl⟩
 ·rename_i rows
  simp at hy;subst hy
  obtain⟨A,c,he,_,_,h3⟩:=xk hr
  refine⟨A,c,he,?_⟩
  rcases h3 with h3|⟨b,oo,sz',vs,rfl,hD,Q6,_,hc,hi⟩
  ·exact .inl h3
  ·by_cases h0:rows=[]
   ·exact .inl h0
   ·have Ct:sz'=sz:=by
     cases rows with
     |nil=>exact(h0 rfl).elim
     |cons c r=>rw[<-Q6 c (by simp),hl c (by simp)]
    subst Ct
    obtain⟨news,q1,q2,q3,q4⟩:=fin b oo h0 (fun i j cs x dW hx=>⟨_,hc i j (List.getElem?_eq_some_iff.1 dW).1 (by rw[<-Q6 cs (List.mem_of_getElem? dW)];exact(List.getElem?_eq_some_iff.1 hx).1),.eE _ _ (hi i j cs x dW hx)⟩)
    exact .inr ⟨b,oo,news,rfl,q1,q2,q3,q4⟩
 ·rename_i i off len
  simp only[Option.bind_eq_some_iff]at hy
  obtain⟨r,hg,hy⟩:=hy
  split at hy
  ·rename_i hle
   simp at hy;subst hy
   obtain⟨oo,cap,B,he,hB,h1,h2,h3,h4,hk⟩:=iz hr
   obtain⟨B',ef,R,_,_⟩:=S.row i r hg
   rw[hB]at ef;injection ef with ef;subst ef
   replace R:=R.row hk
   have hlen:((r.rows.drop off).take len).length=len:=by simp;omega
   refine⟨some ⟨B.b,oo,none⟩,cap,by rw[hlen];exact he,?_⟩
   by_cases h0:(r.rows.drop off).take len=[]
   ·exact .inl h0
   ·have Ct:r.sz=sz:=by
     cases hq:(r.rows.drop off).take len with
     |nil=>exact(h0 hq).elim
     |cons c q=>
      have hm:c∈(r.rows.drop off).take len:=by rw[hq];simp
      rw[<-hl c hm,R.len c (List.mem_of_mem_drop (List.mem_of_mem_take hm))]
    have hlp:0<len:=by rw[<-hlen];exact List.length_pos_iff.2 h0
    have Bo:oo=off*B.sz:=by rcases h2 with h2|h2<;>omega
    obtain⟨news,q1,q2,q3,q4⟩:=fin B.b oo h0 (fun i2 j cs x dW hx=>by
     rw[List.getElem?_take]at dW
     split at dW
     ·rw[List.getElem?_drop]at dW
      obtain⟨v,hv,nT⟩:=R.at_ _ _ _ _ dW hx
      refine⟨v,?_,nT⟩
      rw[Bo,R.sz,<-Ct]
      rw[Nat.add_mul]at hv
      rw[<-Nat.add_assoc]
      exact hv
     ·simp at dW)
    exact .inr ⟨B.b,oo,news,rfl,q1,q2,q3,q4⟩
  ·simp at hy
 ·simp at hy
theorem o3 {t ty e:TypeId} {i:TypeInfo} (ht:P.underlying t=some (.slice e)) (hi:P.info? e=some i) (A:Option Addr) (n c:Nat) (hn:n<=c) (B:Option Addr) (d:Nat):
  (Builtin.append_ #[t,t] ty #[.slice A n c,.slice B 0 d]).run P w=.ok (.slice A n c) w:=by
 have hf:(Builtin.firstCells i.size 0 (.slice B 0 d)).run P w=.ok #[] w:=by
  cases B<;>simp[Builtin.firstCells,loadCells,loadCellsFrom]
 cases A with
 |none=>simp[Builtin.append_,run_underlying ht,sizeOf,typeInfo,hi,Builtin.lenOf,hn,hf]
 |some A=>simp[Builtin.append_,run_underlying ht,sizeOf,typeInfo,hi,Builtin.lenOf,hn,hf,storeCells]
theorem yv {t ty e T:TypeId} {i:TypeInfo} (ht:P.underlying t=some (.slice e)) (hi:P.info? e=some i) (b rY Ff:Nat) (cur:Array Value) (hg:w.heap[b]? =some (.cells cur T (0,0)))
  (x:Addr) (m c:Nat) (news:List Value) (hl:news.length=m*i.size) (UG:∀j u,news[j]? =some u->w.cell? (x.add j)=some u) (h1:∀u∈news,u.oneCell'=true)
  (iq:rY+m<=Ff) (sJ:rY*i.size+news.length<=cur.size):
  (Builtin.append_ #[t,t] ty #[.slice (some ⟨b,0,none⟩) rY Ff,.slice (some x) m c]).run P w=
   .ok (.slice (some ⟨b,0,none⟩) (rY+m) Ff) (w.setRow b (cur.toList.take (rY*i.size)++news++cur.toList.drop (rY*i.size+news.length)).toArray):=by
 have hf:=run_firstCells_some (P:=P) w i.size m x m c news hl UG
 have ed:=run_storeCells_at P b (rY*i.size) T news 0 cur w hg (by simpa using sJ) h1
 simp only[Nat.add_zero]at ed
 simp[Builtin.append_,run_underlying ht,sizeOf,typeInfo,hi,Builtin.lenOf,iq,hf,jX,ed]
theorem Ch (w:World) (HQ CW:Nat) (e:TypeId) (h:HQ<=cX):HQ<=grownCap w HQ CW e/\grownCap w HQ CW e<=maxLen:=by
 unfold cX at h
 simp only[grownCap,Question.cut,maxLen]
 have:=Nat.mod_lt (w.tape w.drawn (.appendCap HQ CW e)) (show 0<2 ^ 63-HQ by omega)
 omega
theorem gm {x y:Operand} {t:TypeId} {u:Value} (ho:o.op=.call {callee:=.builtin .append,args:= #[x,y],argTypes:= #[t,t]}) (h:(Builtin.append_ #[t,t] o.type #[a.eval x,a.eval y]).run P w=.ok u w'):(execOp a.eval o).run P w=.ok (.value u) w':=by
 simp only[execOp,ho,resolve,Sem.run_bind,Sem.run_pure,Result.andThen_ok,invoke,builtin]
 simp only[List.map_toArray,List.map_cons,List.map_nil]
 rw[h];rfl
theorem Dd {T:TypeId} (S:fZ P hs D ι g w) (cells:Array Value) (hn:ι id=none) (B:sr):Step hs D ι w D (jx ι id B) (w.drew.alloc (.cells cells T)):=
 Step.stay S (fun k hk=>by show(w.heap.push _)[k]? = _;rw[Array.getElem?_push,if_neg ab]) (by show _<=(w.heap.push _).size;simp) rfl rfl rfl (fun _ h=>h) (fun _ h=>.inl h) (eZ hn)
theorem JH {x y:Operand} {x' y':O} {t e:TypeId} {m:Nat} {z:List K} {i:TypeInfo} {ys:List (List AV)} {g':Rows} (S:fZ P hs D ι g w) (E:dh P w D ι env a) (hn:ι id=none) (ho:o.op=.call {callee:=.builtin .append,args:= #[x,y],argTypes:= #[t,t]})
  (ht:P.underlying t=some (.slice e)) (fc:ej P e=some (m+1)) (hz:jy P e=some z) (hi:P.info? e=some i) (hby:i.bytes<=32768) (hx:cO P x=some x') (hy:cO P y=some y') (Bt:aT g (cZ env y')=some ys)
  (hv:aH g id (m+1) (cZ env x') ys=some (v,g')):DE P hs a o w D ι id v g':=by
 have rx:=dM E hx
 have ry:=dM E hy
 obtain⟨it,zv,qD,wv,SY,hm,Gd⟩:=jL hz
 rw[hi]at qD;injection qD with qD;subst qD
 have ju:i.size=m+1:=by simpa[ej,hi]using fc
 have fits:∀n,n<=cX->n*i.bytes<=140737488355328:=fun n h=>by
  unfold cX at h
  have:=Nat.mul_le_mul h hby
  omega
 have e63:∀n,n<=cX->(n:Int)<=9223372036854775807:=fun n h=>by unfold cX at h;omega
 have same:∀(w1:World) (cells:Array Value),w1=w.drew.alloc (.cells cells e)->w1.heap=w.heap.push (.cells cells e (0,0)):=fun w1 cells h=>by subst h;rfl
 have Tf:∀l:List (List AV),(l.all fun c=>c.length==m+1&&c.all AV.cell)=true->(∀c∈l,c.length=m+1)/\∀c∈l,∀b∈c,b.cell=true:=fun l h=>by
  rw[List.all_eq_true]at h
  refine⟨fun c hc=>?_,fun c hc b hb=>?_⟩
  ·have:=h c hc;simp at this;exact this.1
  ·have:=h c hc;simp at this;exact this.2 b hb
 unfold aH at hv
 split at hv
 ·rename_i hb
  rw[hb]at rx
  have ex:=iN rx
  split at hv
  ·simp at hv
   obtain⟨rfl,rfl⟩:=hv
   obtain⟨A,c,ey,_⟩:=rV (sz:=m+1) S ry Bt (fun c h=>by cases h) (fun c h=>by cases h)
   refine⟨_,w,ι,.inl (gm ho (by rw[ex,ey];exact o3 ht hi none 0 0 (Nat.le_refl _) A c)),Step.refl _ _ _ _,S,.eE _ _ .bP,fun _ _=>rfl⟩
  ·rename_i y0 yr
   split at hv
   ·rename_i hc
    simp only[Option.some.injEq,Prod.mk.injEq]at hv
    obtain⟨rfl,rfl⟩:=hv
    obtain⟨hl,hf⟩:=Tf _ hc.2
    obtain⟨A,c,ey,h2⟩:=rV (sz:=m+1) S ry Bt hl hf
    rcases h2 with h2|⟨b,oo,news,rfl,q1,q2,q3,q4⟩
    ·cases h2
    have fF:=run_append_nil (P:=P) w t o.type e i zv ht hi wv ⟨b,oo,none⟩ (y0::yr).length c news (by rw[ju];exact q1) (fun j v hj=>by rw[jX];exact q2 j v hj) (by simp) (e63 _ hc.1) (by have:=fits _ hc.1;omega)
    obtain⟨g1,g2⟩:=Ch w (y0::yr).length 0 e hc.1
    have dW:(news.toArray++Builtin.zeroCells zv.cells (grownCap w (y0::yr).length 0 e-(y0::yr).length)).size=grownCap w (y0::yr).length 0 e*(m+1):=by
     rw[Array.size_append,size_zeroCells,SY,ju]
     simp only[List.size_toArray,q1]
     rw[<-Nat.add_mul];congr 1;omega
    have S1:=S.alloc (w':=w.drew.alloc (.cells (news.toArray++Builtin.zeroCells zv.cells (grownCap w (y0::yr).length 0 e-(y0::yr).length)) e)) (r:=⟨true,m+1,y0::yr⟩) rfl hn rfl (by rw[dW];exact Nat.mul_le_mul_right _ g1) hl hf
     (fun k j cs b2 hk hj=>by
      obtain⟨u,hu,yk⟩:=q3.2 _ _ (flat_get hl hk hj)
      refine⟨u,?_,yk⟩
      have eJ:=(Array.getElem?_eq_some_iff.1 hu).1
      dsimp only
      rw[Array.getElem?_append_left eJ];exact hu)
    have ed:=Dd (T:=e) S (news.toArray++Builtin.zeroCells zv.cells (grownCap w (y0::yr).length 0 e-(y0::yr).length)) hn ⟨w.heap.size,m+1,(news.toArray++Builtin.zeroCells zv.cells (grownCap w (y0::yr).length 0 e-(y0::yr).length)).size,none⟩
    refine⟨_,_,_,.inl (gm ho (by rw[ex,ey];exact fF)),ed,S1,?_,fun _ h=>gq h⟩
    refine .own _ _ _ _ _ _ (eh _ _ _) rfl g1 (.inr (by simp)) ?_ g2
    dsimp only;rw[dW];simp
   ·simp at hv
 ·rename_i i0 len hb
  rw[hb]at rx
  simp only[Option.bind_eq_some_iff]at hv
  obtain⟨r,hg,hv⟩:=hv
  split at hv
  ·rename_i hc
   obtain⟨c1,c2,c3,c4,c5⟩:=hc
   simp only[Option.some.injEq,Prod.mk.injEq]at hv
   obtain⟨rfl,rfl⟩:=hv
   obtain⟨hl,hf⟩:=Tf _ c5
   obtain⟨A,c,ey,h2⟩:=rV (sz:=m+1) S ry Bt hl hf
   obtain⟨oo,cap,B,ex,hB,h1,Bo,h3,h4,hk⟩:=iz rx
   obtain⟨B',ef,R,k6,po⟩:=S.row _ _ hg
   rw[hB]at ef;injection ef with ef;subst ef
   replace R:=R.row hk
   have Dr:B.sz=m+1:=R.sz.trans c2
   have AO:∀cs∈r.rows++ys,cs.length=m+1:=fun cs dW=>by
    rcases List.mem_append.1 dW with h|h
    ·rw[<-c2];exact R.len cs h
    ·exact hl cs h
   have Pc:∀cs∈r.rows++ys,∀b∈cs,b.cell=true:=fun cs dW=>by
    rcases List.mem_append.1 dW with h|h
    ·exact R.flat cs h
    ·exact hf cs h
   rcases h2 with rfl|⟨yb,yo,news,rfl,q1,q2,q3,q4⟩
   ·have Hx:=S.rename hg c1 hB hn
    refine⟨_,w,jx ι id B,.inl (gm ho (by rw[ex,ey];exact o3 ht hi _ _ _ h1 A c)),⟨Below.refl _ _,fun _ _=>rfl,fun _ h=>h,eZ hn,fun _ h=>.inl h⟩,?_,?_,fun _ h=>gq h⟩
    ·have:(⟨true,m+1,r.rows++[]⟩:Row)=r:=by cases r;simp_all
     rw[this];exact Hx
    ·simp only[List.length_nil,Nat.add_zero]
     exact .own _ _ _ _ _ B (eh _ _ _) hk h1 Bo h3 h4
   ·obtain⟨cur,T,hblk,hC,wa⟩:=R.cur
    by_cases iq:len+ys.length<=cap
    ·have Yr:ys≠[]->oo=0:=fun h=>by
      rcases Bo with Bo|Bo
      ·have:=List.length_pos_iff.2 h;omega
      ·simpa using Bo
     by_cases hy0:ys=[]
     ·subst hy0
      have Hx:=S.rename hg c1 hB hn
      refine⟨_,w,jx ι id B,.inl (gm ho (by rw[ex,ey];exact o3 ht hi _ _ _ h1 _ c)),⟨Below.refl _ _,fun _ _=>rfl,fun _ h=>h,eZ hn,fun _ h=>.inl h⟩,?_,?_,fun _ h=>gq h⟩
      ·have:(⟨true,m+1,r.rows++[]⟩:Row)=r:=by cases r;simp_all
       rw[this];exact Hx
      ·simp only[List.length_nil,Nat.add_zero]
       exact .own _ _ _ _ _ B (eh _ _ _) hk h1 Bo h3 h4
     have ho0:=Yr hy0
     subst ho0
     have sJ:len*i.size+news.length<=cur.size:=by
      rw[ju,q1,hC,<-Nat.add_mul]
      refine Nat.le_trans ?_ h3
      rw[Dr,Nat.zero_add]
      exact Nat.mul_le_mul_right _ iq
     have fF:=yv (ty:=o.type) ht hi B.b len cap cur hblk ⟨yb,yo,none⟩ ys.length c news (by rw[ju];exact q1) (fun j v hj=>by rw[jX];exact q2 j v hj) q4 iq sJ
     have nR:cur.toList.length=cur.size:=Array.length_toList
     simp only[ju]at fF sJ
     obtain⟨P1,P2⟩:=S.put (r':=⟨true,m+1,r.rows++ys⟩) hg c1 hB hblk (cur':=(cur.toList.take (len*(m+1))++news++cur.toList.drop (len*(m+1)+news.length)).toArray) (by simp only[List.size_toArray,List.length_append,List.length_take,List.length_drop,nR];omega) rfl c2.symm
      (by dsimp only;rw[List.length_append,<-c3,<-Dr];refine Nat.le_trans (Nat.mul_le_mul_right _ iq) (Nat.le_trans (by simp) h3)) AO Pc (fun k j cs b2 hk hj=>by
       simp only[List.getElem?_toArray]
       have ja:j<m+1:=by rw[<-AO cs (List.mem_of_getElem? hk)];exact(List.getElem?_eq_some_iff.1 hj).1
       rw[c2]
       by_cases mN:k<r.rows.length
       ·rw[List.getElem?_append_left mN]at hk
        have h2:k*(m+1)+j<len*(m+1):=jF ab ja
        rw[List.append_assoc,List.getElem?_append_left (by simp only[List.length_take,nR];omega),List.getElem?_take,if_pos h2]
        have:=wa k j cs b2 hk hj
        rw[c2]at this;simpa using this
       ·rw[List.getElem?_append_right ab]at hk
        have rm:=(List.getElem?_eq_some_iff.1 hk).1
        have tN:len*(m+1)<=k*(m+1):=Nat.mul_le_mul_right _ ab
        have qo:k*(m+1)+j-len*(m+1)=(k-r.rows.length)*(m+1)+j:=by
         rw[<-c3,Nat.sub_mul];omega
        obtain⟨u,hu,yk⟩:=q3.2 _ _ (flat_get hl hk hj)
        refine⟨u,?_,yk⟩
        have F9:news[(k-r.rows.length)*(m+1)+j]? =some u:=by simpa using hu
        have eJ:=(List.getElem?_eq_some_iff.1 F9).1
        rw[List.append_assoc,List.getElem?_append_right (by simp only[List.length_take,nR];omega),List.getElem?_append_left (by simp only[List.length_take,nR];omega)]
        rw[<-F9]
        congr 1
        simp only[List.length_take,nR]
        omega)
     have iL:bz (bx (bz g i0 ⟨true,m+1,r.rows++ys⟩) i0) id ⟨true,m+1,r.rows++ys⟩=bz (bx g i0) id ⟨true,m+1,r.rows++ys⟩:=by
      funext q;simp only[bz,bx]
      by_cases h:q=id<;>by_cases h':q=i0<;>simp[h,h']
     have Hx:=P1.rename (i:=i0) (id:=id) (r:=⟨true,m+1,r.rows++ys⟩) (by simp[bz]) rfl hB hn
     rw[iL]at Hx
     refine⟨_,_,_,.inl (gm ho (by rw[ex,ey];exact fF)),P2.trans ⟨Below.refl _ _,fun _ _=>rfl,fun _ h=>h,eZ hn,fun _ h=>.inl h⟩,Hx,?_,fun _ h=>gq h⟩
     exact .own _ _ _ _ _ B (eh _ _ _) hk iq (.inr (by simp)) h3 h4
    ·
     have holds:∃uu:List Value,uu.length=len*(m+1)/\(∀j v,uu[j]? =some v->w.cell? ⟨B.b,oo+j,none⟩=some v)/\fE P w D ι r.rows.flatten uu.toArray:=by
      obtain⟨A2,c2',e2,h2⟩:=rV (sz:=m+1) (u:=.slice (some ⟨B.b,oo,none⟩) len cap) S (.own i0 0 len oo cap B hB hk h1 Bo h3 h4) (ys:=r.rows) (by simp[aT,hg,c3]) (fun cs h=>by rw[<-c2];exact R.len cs h) R.flat
      rcases h2 with h2|⟨b2,o2,uu,rfl,p1,p2,p3,_⟩
      ·refine⟨[],by simp[c3,h2],fun j v h=>by simp at h,by rw[h2];exact⟨rfl,fun j a h=>by simp at h⟩⟩
      ·injection e2 with e2 _ _
       injection e2 with e2
       injection e2 with e21 e22 _
       subst e21;subst e22
       exact⟨uu,by rw[p1,c3],p2,p3⟩
     obtain⟨uu,p1,p2,p3⟩:=holds
     have fF:=run_append_grow (P:=P) w t o.type e i zv ht hi wv ⟨B.b,oo,none⟩ len cap uu (by rw[ju];exact p1) (fun j v hj=>by rw[jX];exact p2 j v hj) ⟨yb,yo,none⟩ ys.length c news (by rw[ju];exact q1) (fun j v hj=>by rw[jX];exact q2 j v hj) ab (e63 _ c4) (growslice_fits ab (fits _ c4))
     obtain⟨g1,g2⟩:=Ch w (len+ys.length) cap e c4
     have dW:(uu.toArray++news.toArray++Builtin.zeroCells zv.cells (grownCap w (len+ys.length) cap e-(len+ys.length))).size=grownCap w (len+ys.length) cap e*(m+1):=by
      rw[Array.size_append,Array.size_append,size_zeroCells,SY,ju]
      simp only[List.size_toArray,q1,p1]
      rw[<-Nat.add_mul,<-Nat.add_mul];congr 1;omega
     have S1:=(S.kill i0).alloc (id:=id) (w':=w.drew.alloc (.cells (uu.toArray++news.toArray++Builtin.zeroCells zv.cells (grownCap w (len+ys.length) cap e-(len+ys.length))) e)) (r:=⟨true,m+1,r.rows++ys⟩) rfl hn rfl (by dsimp only;rw[dW,List.length_append,<-c3];exact Nat.mul_le_mul_right _ g1) AO Pc
      (fun k j cs b2 hk hj=>by
       have J9:=flat_get AO hk hj
       rw[List.flatten_append]at J9
       have UL:uu.length=r.rows.flatten.length:=by have:=p3.1;simpa using this
       dsimp only
       by_cases eJ:k*(m+1)+j<r.rows.flatten.length
       ·rw[List.getElem?_append_left eJ]at J9
        obtain⟨u,hu,yk⟩:=p3.2 _ _ J9
        refine⟨u,?_,yk⟩
        rw[Array.getElem?_append_left (by simp;omega),Array.getElem?_append_left (by simp;omega)];exact hu
       ·rw[List.getElem?_append_right ab]at J9
        obtain⟨u,hu,yk⟩:=q3.2 _ _ J9
        refine⟨u,?_,yk⟩
        have AH:=(Array.getElem?_eq_some_iff.1 hu).1
        simp only[List.size_toArray]at AH
        rw[Array.getElem?_append_left (by simp;omega),Array.getElem?_append_right (by simp;omega)]
        simp only[List.size_toArray,UL];exact hu)
     have ed:=Dd (T:=e) S (uu.toArray++news.toArray++Builtin.zeroCells zv.cells (grownCap w (len+ys.length) cap e-(len+ys.length))) hn ⟨w.heap.size,m+1,(uu.toArray++news.toArray++Builtin.zeroCells zv.cells (grownCap w (len+ys.length) cap e-(len+ys.length))).size,none⟩
     refine⟨_,_,_,.inl (gm ho (by rw[ex,ey];exact fF)),ed,S1,?_,fun _ h=>gq h⟩
     refine .own _ _ _ _ _ _ (eh _ _ _) rfl g1 (.inr (by simp)) ?_ g2
     dsimp only;rw[dW];simp
  ·simp at hv
 ·simp at hv
theorem kU {x:Operand} {t:TypeId} {u:Value} (ho:o.op=.call {callee:=.builtin .clear,args:= #[x],argTypes:= #[t]}) (h:(Builtin.clear_ #[t] o.type #[a.eval x]).run P w=.ok u w'):(execOp a.eval o).run P w=.ok (.value u) w':=by
 simp only[execOp,ho,resolve,Sem.run_bind,Sem.run_pure,Result.andThen_ok,invoke,builtin]
 simp only[List.map_toArray,List.map_cons,List.map_nil]
 rw[h];rfl
theorem Nc {x:Operand} {x':O} {t e:TypeId} {m:Nat} {z:List K} {g':Rows} (S:fZ P hs D ι g w) (E:dh P w D ι env a) (ho:o.op=.call {callee:=.builtin .clear,args:= #[x],argTypes:= #[t]})
  (ht:P.underlying t=some (.slice e)) (fc:ej P e=some (m+1)) (hz:jy P e=some z) (hx:cO P x=some x') (hv:bf g z (cZ env x')=some g'):DE P hs a o w D ι id .undef g':=by
 have rx:=dM E hx
 obtain⟨it,zv,hi,wv,SY,hm,Gd⟩:=jL hz
 have ju:it.size=m+1:=by simpa[ej,hi]using fc
 unfold bf at hv
 split at hv
 ·rename_i hb
  rw[hb]at rx
  simp at hv;subst hv
  refine⟨undef,w,ι,.inl (kU ho (by rw[iN rx];simp only[Builtin.clear_,Sem.run_bind];simp[run_underlying ht,undef])),Step.refl _ _ _ _,S,dE.undef,fun _ _=>rfl⟩
 ·rename_i i off len hb
  rw[hb]at rx
  simp only[Option.bind_eq_some_iff]at hv
  obtain⟨r,hg,hv⟩:=hv
  split at hv
  ·rename_i hc
   obtain⟨c1,c2,c3⟩:=hc
   simp only[Option.some.injEq]at hv;subst hv
   obtain⟨oo,cap,B,ex,hB,h1,h2,h3,h4,hk⟩:=iz rx
   obtain⟨B',ef,R,k6,po⟩:=S.row _ _ hg
   rw[hB]at ef;injection ef with ef;subst ef
   replace R:=R.row hk
   obtain⟨cur,T,hblk,hC,wa⟩:=R.cur
   by_cases h0:len=0
   ·subst h0
    have e1:({r with rows:=r.rows.take off++List.replicate 0 (z.map K.av)++r.rows.drop (off+0)}:Row)=r:=by cases r;simp
    rw[e1]
    have e2:bz g i r=g:=by
     funext q;unfold bz;split
     ·rename_i h;rw[h,hg]
     ·rfl
    rw[e2]
    refine⟨undef,w,ι,.inl (kU ho (by rw[ex];simp only[Builtin.clear_,Sem.run_bind];simp[run_underlying ht,undef])),Step.refl _ _ _ _,S,dE.undef,fun _ _=>rfl⟩
   ·have AI:oo=off*B.sz:=by rcases h2 with h2|h2<;>omega
    have Dr:B.sz=m+1:=by rw[R.sz,c2,Gd,ju]
    have za:r.sz=m+1:=by rw[<-R.sz,Dr]
    have U5:zv.cells.size=m+1:=by rw[SY,ju]
    have xS:(Builtin.zeroCells zv.cells len).toList.length=len*(m+1):=by rw[Array.length_toList,size_zeroCells,U5]
    have U4:∀k,k<len*(m+1)->∃c,z[k % z.length]? =some c/\(Builtin.zeroCells zv.cells len).toList[k]? =some c.val:=fun k hk=>by
     obtain⟨c,oH,Ep⟩:=pd (n:=len*zv.cells.size) hm (by rw[Gd,ju];omega) k (by rw[U5];exact hk)
     exact⟨c,oH,by rw[Array.getElem?_toList];exact Ep⟩
    have hbound:(off+len)*(m+1)<=r.rows.length*(m+1):=Nat.mul_le_mul_right _ c3
    have wb:=R.fits
    rw[za]at wb
    have X1:(off+len)*(m+1)=off*(m+1)+len*(m+1):=Nat.add_mul _ _ _
    have ed:=run_storeCells_at P B.b oo T (Builtin.zeroCells zv.cells len).toList 0 cur w hblk (by rw[xS,hC,AI,Dr];omega) (by
     intro v hv
     obtain⟨k,hk,rfl⟩:=List.getElem_of_mem hv
     obtain⟨c,_,Ep⟩:=U4 k (by rw[<-xS];exact hk)
     rw[List.getElem?_eq_getElem hk]at Ep
     injection Ep with Ep
     rw[Ep];cases c<;>rfl)
    simp only[Nat.add_zero]at ed
    have nR:cur.toList.length=cur.size:=Array.length_toList
    obtain⟨P1,P2⟩:=S.put (r':={r with rows:=r.rows.take off++List.replicate len (z.map K.av)++r.rows.drop (off+len)}) hg c1 hB hblk (cur':=(cur.toList.take oo++(Builtin.zeroCells zv.cells len).toList++cur.toList.drop (oo+(Builtin.zeroCells zv.cells len).toList.length)).toArray)
     (by simp only[List.size_toArray,List.length_append,List.length_take,List.length_drop,nR,xS];rw[AI,Dr];omega) c1 rfl (by
      have:(r.rows.take off++List.replicate len (z.map K.av)++r.rows.drop (off+len)).length=r.rows.length:=by simp;omega
      dsimp only;rw[this];exact R.fits) (fun cs dW=>by
      rcases List.mem_append.1 dW with h|h
      ·rcases List.mem_append.1 h with h|h
       ·exact R.len cs (List.mem_of_mem_take h)
       ·rw[List.eq_of_mem_replicate h];simp[c2]
      ·exact R.len cs (List.mem_of_mem_drop h)) (fun cs dW b hb=>by
      rcases List.mem_append.1 dW with h|h
      ·rcases List.mem_append.1 h with h|h
       ·exact R.flat cs (List.mem_of_mem_take h) b hb
       ·rw[List.eq_of_mem_replicate h]at hb
        obtain⟨c,_,rfl⟩:=List.mem_map.1 hb;exact c.mJ
      ·exact R.flat cs (List.mem_of_mem_drop h) b hb) (fun k j cs b hk hj=>by
      simp only[List.getElem?_toArray]
      rw[za]
      rw[AI,Dr,xS]
      by_cases sK:k<off
      ·rw[List.append_assoc,List.getElem?_append_left (by simp;omega),List.getElem?_take,if_pos sK]at hk
       have ja:j<m+1:=by rw[<-za,<-R.len cs (List.mem_of_getElem? hk)];exact(List.getElem?_eq_some_iff.1 hj).1
       have h2:=jF sK ja
       rw[List.append_assoc,List.getElem?_append_left (by simp only[List.length_take,nR];omega),List.getElem?_take,if_pos h2]
       have:=wa k j cs b hk hj
       rw[za]at this;simpa using this
      ·by_cases rm:k<off+len
       ·rw[List.append_assoc,List.getElem?_append_right (by simp;omega),List.getElem?_append_left (by simp;omega)]at hk
        have hZ:=List.eq_of_mem_replicate (List.mem_of_getElem? hk)
        subst hZ
        simp only[List.getElem?_map,Option.map_eq_some_iff]at hj
        obtain⟨q,hq,rfl⟩:=hj
        have ja:=(List.getElem?_eq_some_iff.1 hq).1
        rw[Gd,ju]at ja
        have tN:off*(m+1)<=k*(m+1):=Nat.mul_le_mul_right _ ab
        have qo:k*(m+1)+j-off*(m+1)=(k-off)*(m+1)+j:=by rw[Nat.sub_mul];omega
        have AH:(k-off)*(m+1)+j<len*(m+1):=jF ab ja
        rw[List.append_assoc,List.getElem?_append_right (by simp only[List.length_take,nR];omega),List.getElem?_append_left (by simp only[List.length_take,nR,xS];omega)]
        obtain⟨c,oH,Ep⟩:=U4 _ AH
        rw[Gd,ju,Nat.mul_comm (k-off),Nat.mul_add_mod,Nat.mod_eq_of_lt ja,hq]at oH
        injection oH with oH;subst oH
        refine⟨q.val,?_,xh q⟩
        rw[<-Ep]
        congr 1
        simp only[List.length_take,nR];omega
       ·rw[List.getElem?_append_right (by simp;omega)]at hk
        simp only[List.length_append,List.length_take,List.length_replicate,List.getElem?_drop]at hk
        rw[show off+len+(k-(min off r.rows.length+len))=k by omega]at hk
        have mN:=(List.getElem?_eq_some_iff.1 hk).1
        have tN:(off+len)*(m+1)<=k*(m+1):=Nat.mul_le_mul_right _ ab
        rw[List.getElem?_append_right (by simp only[List.length_append,List.length_take,nR,xS];omega)]
        simp only[List.length_append,List.length_take,nR,xS,List.getElem?_drop]
        rw[show off*(m+1)+len*(m+1)+(k*(m+1)+j-(min (off*(m+1)) cur.size+len*(m+1)))=k*(m+1)+j by omega]
        have:=wa k j cs b hk hj
        rw[za]at this;simpa using this)
    refine⟨undef,_,ι,.inl (kU ho ?_),P2,P1,dE.undef,fun _ _=>rfl⟩
    rw[ex]
    cases len with
    |zero=>exact(h0 rfl).elim
    |succ len=>
     simp only[Builtin.clear_,Sem.run_bind]
     simp[run_underlying ht,zeroValue,typeInfo,hi,wv,ed,undef]
  ·simp at hv
 ·simp at hv
theorem H9 {dT sT ty e:TypeId} {it:TypeInfo} (hu:P.underlying dT=some (.slice e)) (hi:P.info? e=some it) (A B:Option Addr) (rY Ff Ha Qt:Nat) (h0:Nat.min rY Ha=0):
  (Builtin.copy_ #[dT,sT] ty #[.slice A Ha Qt,.slice B rY Ff]).run P w=.ok (goInt 0) w:=by
 cases A<;>cases B<;>simp[Builtin.copy_,run_underlying hu,Builtin.lenOf,Builtin.firstCells,sizeOf,typeInfo,hi,h0,storeCells,loadCells,loadCellsFrom]
theorem Ia {dT sT ty e:TypeId} {it:TypeInfo} (hu:P.underlying dT=some (.slice e)) (hi:P.info? e=some it) (A B:Addr) (rY Ff Ha Qt:Nat) (cs:List Value) (hn:cs.length=Nat.min rY Ha*it.size) (hl:(loadCells B cs.length).run P w=.ok cs.toArray w) (hs:(storeCells A cs).run P w=.ok () w'):
  (Builtin.copy_ #[dT,sT] ty #[.slice (some A) Ha Qt,.slice (some B) rY Ff]).run P w=.ok (goInt (Nat.min rY Ha)) w':=by
 simp[Builtin.copy_,run_underlying hu,Builtin.lenOf,Builtin.firstCells,sizeOf,typeInfo,hi,<-hn,hl,hs]
theorem qa {x y:Operand} {t t2:TypeId} {u:Value} (ho:o.op=.call {callee:=.builtin .copy,args:= #[x,y],argTypes:= #[t,t2]}) (h:(Builtin.copy_ #[t,t2] o.type #[a.eval x,a.eval y]).run P w=.ok u w'):(execOp a.eval o).run P w=.ok (.value u) w':=by
 simp only[execOp,ho,resolve,Sem.run_bind,Sem.run_pure,Result.andThen_ok,invoke,builtin]
 simp only[List.map_toArray,List.map_cons,List.map_nil]
 rw[h];rfl
theorem Qv {x y:Operand} {x' y':O} {t t2 e:TypeId} {m:Nat} {ys:List (List AV)} {v:AV} {g':Rows} (S:fZ P hs D ι g w) (E:dh P w D ι env a) (ho:o.op=.call {callee:=.builtin .copy,args:= #[x,y],argTypes:= #[t,t2]})
  (ht:P.underlying t=some (.slice e)) (fc:ej P e=some (m+1)) (hx:cO P x=some x') (hy:cO P y=some y') (Bt:aT g (cZ env y')=some ys) (hv:GG g (m+1) (cZ env x') ys=some (v,g')):DE P hs a o w D ι id v g':=by
 have rx:=dM E hx
 have ry:=dM E hy
 obtain⟨it,hi,ju⟩:∃it,P.info? e=some it/\it.size=m+1:=by
  cases hq:P.info? e with
  |none=>simp[ej,hq]at fc
  |some it=>exact⟨it,rfl,by simpa[ej,hq]using fc⟩
 unfold GG at hv
 split at hv
 ·rename_i i off len hb
  rw[hb]at rx
  simp only[Option.bind_eq_some_iff]at hv
  obtain⟨r,hg,hv⟩:=hv
  split at hv
  ·rename_i hc
   obtain⟨c1,c2,c3,c4⟩:=hc
   simp only[Option.some.injEq,Prod.mk.injEq]at hv
   obtain⟨rfl,rfl⟩:=hv
   rw[List.all_eq_true]at c4
   have hl:∀c∈ys,c.length=m+1:=fun c hc=>by have:=c4 c hc;simp at this;exact this.1
   have hf:∀c∈ys,∀b∈c,b.cell=true:=fun c hc b hb=>by have:=c4 c hc;simp at this;exact this.2 b hb
   obtain⟨oo,cap,B,ex,hB,h1,h2,h3,h4,hk⟩:=iz rx
   obtain⟨B',ef,R,k6,po⟩:=S.row _ _ hg
   rw[hB]at ef;injection ef with ef;subst ef
   replace R:=R.row hk
   obtain⟨cur,T,hblk,hC,wa⟩:=R.cur
   obtain⟨A,sc,hu,hA⟩:=rV S ry Bt hl hf
   by_cases h0:min ys.length len=0
   ·rw[h0]
    have e1:({r with rows:=r.rows.take off++ys.take 0++r.rows.drop (off+0)}:Row)=r:=by cases r;simp
    rw[e1]
    have e2:bz g i r=g:=by
     funext q;unfold bz;split
     ·rename_i h;rw[h,hg]
     ·rfl
    rw[e2]
    refine⟨goInt 0,w,ι,.inl (qa ho (by rw[ex,hu];exact H9 ht hi _ _ _ _ _ _ h0)),Step.refl _ _ _ _,S,.eE _ _ (.int _ _),fun _ _=>rfl⟩
   ·rcases hA with rfl|⟨b,o2,news,rfl,Du,hsrc,hR,h1c⟩
    ·simp at h0
    have UC:Nat.min ys.length len=min ys.length len:=rfl
    have hky:min ys.length len<=ys.length:=Nat.min_le_left _ _
    have mN:min ys.length len<=len:=Nat.min_le_right _ _
    generalize hkk:min ys.length len=kk at *
    have hlen0:len≠0:=ab
    have AI:oo=off*B.sz:=by rcases h2 with h2|h2<;>omega
    have Dr:B.sz=m+1:=by rw[R.sz,c2]
    have za:r.sz=m+1:=c2
    have WA:kk*(m+1)<=ys.length*(m+1):=Nat.mul_le_mul_right _ hky
    have xS:(news.take (kk*(m+1))).length=kk*(m+1):=by rw[List.length_take,Du];omega
    have hbound:(off+kk)*(m+1)<=r.rows.length*(m+1):=Nat.mul_le_mul_right _ ab
    have wb:=R.fits
    rw[za]at wb
    have X1:(off+kk)*(m+1)=off*(m+1)+kk*(m+1):=Nat.add_mul _ _ _
    have ed:=run_storeCells_at P B.b oo T (news.take (kk*(m+1))) 0 cur w hblk (by rw[xS,hC,AI,Dr];omega) (fun v hv=>h1c v (List.mem_of_mem_take hv))
    have Ye:=run_loadCells_list (P:=P) w ⟨b,o2,none⟩ (news.take (kk*(m+1))) (fun j v hj=>by
     rw[List.getElem?_take]at hj
     split at hj
     ·have:=hsrc j v hj
      cases j with
      |zero=>simpa[Addr.add]using this
      |succ j=>simpa[Addr.add]using this
     ·cases hj)
    simp only[Nat.add_zero]at ed
    have nR:cur.toList.length=cur.size:=Array.length_toList
    have Dv:(ys.take kk).length=kk:=by rw[List.length_take];omega
    obtain⟨P1,P2⟩:=S.put (r':={r with rows:=r.rows.take off++ys.take kk++r.rows.drop (off+kk)}) hg c1 hB hblk (cur':=(cur.toList.take oo++news.take (kk*(m+1))++cur.toList.drop (oo+(news.take (kk*(m+1))).length)).toArray)
     (by simp only[List.size_toArray,List.length_append,List.length_drop,nR,xS];rw[List.length_take,nR,AI,Dr];omega) c1 rfl (by
      have:(r.rows.take off++ys.take kk++r.rows.drop (off+kk)).length=r.rows.length:=by simp;omega
      dsimp only;rw[this];exact R.fits) (fun cs dW=>by
      rcases List.mem_append.1 dW with h|h
      ·rcases List.mem_append.1 h with h|h
       ·exact R.len cs (List.mem_of_mem_take h)
       ·rw[hl cs (List.mem_of_mem_take h)];exact c2.symm
      ·exact R.len cs (List.mem_of_mem_drop h)) (fun cs dW b hb=>by
      rcases List.mem_append.1 dW with h|h
      ·rcases List.mem_append.1 h with h|h
       ·exact R.flat cs (List.mem_of_mem_take h) b hb
       ·exact hf cs (List.mem_of_mem_take h) b hb
      ·exact R.flat cs (List.mem_of_mem_drop h) b hb) (fun k j cs b hk hj=>by
      simp only[List.getElem?_toArray]
      rw[za]
      rw[AI,Dr,xS]
      by_cases sK:k<off
      ·rw[List.append_assoc,List.getElem?_append_left (by simp;omega),List.getElem?_take,if_pos sK]at hk
       have ja:j<m+1:=by rw[<-za,<-R.len cs (List.mem_of_getElem? hk)];exact(List.getElem?_eq_some_iff.1 hj).1
       have h2:=jF sK ja
       rw[List.append_assoc,List.getElem?_append_left (by simp only[List.length_take,nR];omega),List.getElem?_take,if_pos h2]
       have:=wa k j cs b hk hj
       rw[za]at this;simpa using this
      ·by_cases rm:k<off+kk
       ·rw[List.append_assoc,List.getElem?_append_right (by simp;omega),List.getElem?_append_left (by simp;omega)]at hk
        simp only[List.length_take]at hk
        rw[show k-min off r.rows.length=k-off by omega,List.getElem?_take,if_pos ab]at hk
        have ja:j<m+1:=by rw[<-hl cs (List.mem_of_getElem? hk)];exact(List.getElem?_eq_some_iff.1 hj).1
        have tN:off*(m+1)<=k*(m+1):=Nat.mul_le_mul_right _ ab
        have qo:k*(m+1)+j-off*(m+1)=(k-off)*(m+1)+j:=by rw[Nat.sub_mul];omega
        have AH:(k-off)*(m+1)+j<kk*(m+1):=jF ab ja
        rw[List.append_assoc,List.getElem?_append_right (by simp only[List.length_take,nR];omega),List.getElem?_append_left (by rw[xS];simp only[List.length_take,nR];omega)]
        obtain⟨u,PE,Rn⟩:=hR.2 ((k-off)*(m+1)+j) b (flat_get hl hk hj)
        refine⟨u,?_,Rn⟩
        rw[List.getElem?_take]
        simp only[List.length_take,nR]
        rw[show k*(m+1)+j-min (off*(m+1)) cur.size=(k-off)*(m+1)+j by omega,if_pos AH]
        simpa using PE
       ·rw[List.getElem?_append_right (by simp;omega)]at hk
        simp only[List.length_append,List.length_take,List.getElem?_drop]at hk
        rw[show off+kk+(k-(min off r.rows.length+min kk ys.length))=k by omega]at hk
        have mN:=(List.getElem?_eq_some_iff.1 hk).1
        have tN:(off+kk)*(m+1)<=k*(m+1):=Nat.mul_le_mul_right _ ab
        rw[List.getElem?_append_right (by rw[List.length_append,xS];simp only[List.length_take,nR];omega)]
        rw[List.getElem?_drop,List.length_append,xS]
        simp only[List.length_take,nR]
        rw[show off*(m+1)+kk*(m+1)+(k*(m+1)+j-(min (off*(m+1)) cur.size+kk*(m+1)))=k*(m+1)+j by omega]
        have:=wa k j cs b hk hj
        rw[za]at this;simpa using this)
    refine⟨goInt kk,_,ι,.inl (qa ho ?_),P2,P1,.eE _ _ (.int _ _),fun _ _=>rfl⟩
    rw[ex,hu]
    have:=Ia (w:=w) (sT:=t2) (ty:=o.type) ht hi ⟨B.b,oo,none⟩ ⟨b,o2,none⟩ ys.length sc len cap _ (by rw[xS,UC,ju]) Ye ed
    rw[UC]at this
    exact this
  ·simp at hv
 ·simp at hv
end
end Go.Proofs.YtalkncaokeaifaaGreatDoor.V

namespace Go.Proofs.YtalkncaokeaifaaGreatDoor.V
open Go.RowKit
variable {P:Program} {w w':World} {D D' D2:Nat->Prop} {ι ι' ι2:Names}
section
variable {g:Rows} {hs:Nat}
theorem gE:∀{n:Nat} {l r:List AV},ek g n l=some r->r.length=l.length/\∀(j:Nat) (b:AV),r[j]? =some b->∃a,l[j]? =some a/\fz g n a=some b
 |n,[],r,h=>by
  rw[ek]at h;simp at h;subst h;simp
 |n,a::l,r,h=>by
  rw[ek]at h
  split at h
  ·rename_i b hb
   simp only[Option.map_eq_some_iff]at h
   obtain⟨r',hr,rfl⟩:=h
   obtain⟨h1,h2⟩:=gE hr
   refine⟨by simp[h1],fun j c hj=>?_⟩
   cases j with
   |zero=>simp at hj;subst hj;exact⟨a,rfl,hb⟩
   |succ j=>simp at hj ⊢;exact h2 j c hj
  ·simp at h
theorem vW:∀{n:Nat} {l r:List (List AV)},fm g n l=some r->r.length=l.length/\∀(j:Nat) (b:List AV),r[j]? =some b->∃a,l[j]? =some a/\ek g n a=some b
 |n,[],r,h=>by
  rw[fm]at h;simp at h;subst h;simp
 |n,a::l,r,h=>by
  rw[fm]at h
  split at h
  ·rename_i b hb
   simp only[Option.map_eq_some_iff]at h
   obtain⟨r',hr,rfl⟩:=h
   obtain⟨h1,h2⟩:=vW hr
   refine⟨by simp[h1],fun j c hj=>?_⟩
   cases j with
   |zero=>simp at hj;subst hj;exact⟨a,rfl,hb⟩
   |succ j=>simp at hj ⊢;exact h2 j c hj
  ·simp at h
theorem rf (hD:∀b,D b->D2 b) (si:∀id row,g id=some row->row.w=true->∃B,ι id=some B/\gC P w D ι B row/\D2 B.b):∀(n:Nat) (a:AV) (u:Value) (r:AV),dE P w D ι a u->fz g n a=some r->dE P w D2 ι2 r u/\(a.cell=true->jA P w D2 r u/\r.cell=true):=by
 intro n
 induction n with
 |zero=>intro a u r _ h;rw[fz]at h;simp at h
 |succ n ih=>
  intro a u r hr h
  have both:∀{r:AV},jA P w D2 r u->r.cell=true->dE P w D2 ι2 r u/\(a.cell=true->jA P w D2 r u/\r.cell=true):=fun h1 h2=>⟨.eE _ _ h1,fun _=>⟨h1,h2⟩⟩
  cases a with
  |map id m=>rw[fz]at h;cases h
  |qR id=>rw[fz]at h;cases h
  |own id off len=>
   rw[fz]at h
   split at h
   ·rename_i row hg
    split at h
    ·rename_i hw
     split at h
     ·rename_i hle
      simp only[Option.map_eq_some_iff]at h
      obtain⟨rows,j5,rfl⟩:=h
      obtain⟨B,hB,R,QL⟩:=si id row hg hw
      obtain⟨o,cap,B',rfl,ef,h1,h2,h3,h4,hk⟩:=iz hr
      rw[hB]at ef;injection ef with ef;subst ef
      replace R:=R.row hk
      obtain⟨l1,l2⟩:=vW j5
      have hlen:rows.length=len:=by rw[l1];simp;omega
      by_cases h0:rows=[]
      ·subst h0
       simp at hlen;subst hlen
       exact both (.Bd _ _ h4) rfl
      ·have hlp:0<len:=by rw[<-hlen];exact List.length_pos_iff.2 h0
       have ho:o=off*B.sz:=by rcases h2 with h2|h2<;>omega
       have src:∀i cs,rows[i]? =some cs->∃c0,row.rows[off+i]? =some c0/\ek g n c0=some cs:=fun i cs hi=>by
        obtain⟨c0,jt,hf⟩:=l2 i cs hi
        rw[List.getElem?_take]at jt
        split at jt
        ·rw[List.getElem?_drop]at jt;exact⟨c0,jt,hf⟩
        ·simp at jt
       have cell:∀i j,i<len->j<row.sz->∃c0 a0 v,row.rows[off+i]? =some c0/\c0[j]? =some a0/\w.cell? ⟨B.b,o+(i*row.sz+j),none⟩=some v/\dE P w D ι a0 v:=fun i j hi hj=>by
        have qD:off+i<row.rows.length:=ab
        have e1:=List.getElem?_eq_getElem qD
        have Mu:j<row.rows[off+i].length:=by rw[R.len _ (List.getElem_mem qD)];exact hj
        obtain⟨v,hv,nT⟩:=R.at_ _ _ _ _ e1 (List.getElem?_eq_getElem Mu)
        refine⟨_,_,v,e1,List.getElem?_eq_getElem Mu,?_,nT⟩
        rw[ho,R.sz,<-hv]
        congr 2
        rw[Nat.add_mul];omega
       refine both (.sl rows B.b o len cap row.sz (fun i j=>(w.cell? ⟨B.b,o+(i*row.sz+j),none⟩).getD undef) hlen h1 h4 QL (fun cs dW=>?_) (fun cs dW b hb=>?_) (fun i j hi hj=>?_) (fun i j cs b hi hj=>?_)) rfl
       ·obtain⟨i,hi,rfl⟩:=List.getElem_of_mem dW
        obtain⟨c0,jt,hf⟩:=src i _ (List.getElem?_eq_getElem hi)
        rw[(gE hf).1];exact R.len c0 (List.mem_of_getElem? jt)
       ·obtain⟨i,hi,rfl⟩:=List.getElem_of_mem dW
        obtain⟨c0,jt,hf⟩:=src i _ (List.getElem?_eq_getElem hi)
        obtain⟨j,hj,rfl⟩:=List.getElem_of_mem hb
        obtain⟨a0,kh,J7⟩:=(gE hf).2 j _ (List.getElem?_eq_getElem hj)
        obtain⟨v,_,nT⟩:=R.at_ _ _ _ _ jt kh
        exact((ih _ _ _ nT J7).2 (R.flat c0 (List.mem_of_getElem? jt) a0 (List.mem_of_getElem? kh))).2
       ·obtain⟨c0,a0,v,_,_,hv,_⟩:=cell i j hi hj
        simp only[hv,Option.getD_some]
       ·obtain⟨c0,jt,hf⟩:=src i cs hi
        obtain⟨a0,kh,J7⟩:=(gE hf).2 j b hj
        have pN:i<len:=by rw[<-hlen];exact(List.getElem?_eq_some_iff.1 hi).1
        have ja:j<row.sz:=by rw[<-R.len c0 (List.mem_of_getElem? jt)];exact(List.getElem?_eq_some_iff.1 kh).1
        obtain⟨c1,a1,v,e1,e2,hv,nT⟩:=cell i j pN ja
        rw[jt]at e1;injection e1 with e1;subst e1
        rw[kh]at e2;injection e2 with e2;subst e2
        simp only[hv,Option.getD_some]
        exact((ih _ _ _ nT J7).2 (R.flat c0 (List.mem_of_getElem? jt) a0 (List.mem_of_getElem? kh))).1
     ·simp at h
    ·simp at h
   ·simp at h
  |ptr id i off=>
   rw[fz]at h
   split at h
   ·rename_i row hg
    split at h
    ·rename_i hw
     split at h
     ·rename_i c0 jt
      simp only[Option.map_eq_some_iff]at h
      obtain⟨cs,dW,rfl⟩:=h
      obtain⟨B,hB,R,QL⟩:=si id row hg hw
      obtain⟨B',rfl,ef,hk⟩:=gW hr
      rw[hB]at ef;injection ef with ef;subst ef
      replace R:=R.row hk
      obtain⟨l1,l2⟩:=gE dW
      have at_:∀j b,cs[j]? =some b->∃a0 v,w.cell? ⟨B.b,i*B.sz+off+j,none⟩=some v/\dE P w D ι a0 v/\a0.cell=true/\fz g n a0=some b:=fun j b hj=>by
       obtain⟨a0,kh,hf⟩:=l2 j b hj
       rw[List.getElem?_drop]at kh
       obtain⟨v,hv,nT⟩:=R.at_ _ _ _ _ jt kh
       refine⟨a0,v,?_,nT,R.flat c0 (List.mem_of_getElem? jt) a0 (List.mem_of_getElem? kh),hf⟩
       rw[R.sz,Nat.add_assoc];exact hv
      refine both (.fe cs B.b _ (fun j=>(w.cell? ⟨B.b,i*B.sz+off+j,none⟩).getD undef) QL (fun b hb=>?_) (fun j hj=>?_) (fun j b hj=>?_)) rfl
      ·obtain⟨j,hj,rfl⟩:=List.getElem_of_mem hb
       obtain⟨a0,v,_,nT,hc,hf⟩:=at_ j _ (List.getElem?_eq_getElem hj)
       exact((ih _ _ _ nT hf).2 hc).2
      ·obtain⟨a0,v,hv,_⟩:=at_ j _ (List.getElem?_eq_getElem hj)
       simp only[hv,Option.getD_some]
      ·obtain⟨a0,v,hv,nT,hc,hf⟩:=at_ j b hj
       simp only[hv,Option.getD_some]
       exact((ih _ _ _ nT hf).2 hc).1
     ·simp at h
    ·simp at h
   ·simp at h
  |agg cs=>
   rw[fz]at h
   simp only[Option.map_eq_some_iff]at h
   obtain⟨r',nS,rfl⟩:=h
   obtain⟨vs,f,rfl,h1,h2,h3,h4⟩:=iy hr
   obtain⟨l1,l2⟩:=gE nS
   have hI:jA P w D2 (.agg r') (.agg vs):=.agg r' vs f (by rw[h1,l1]) (fun b hb=>by
    obtain⟨j,hj,rfl⟩:=List.getElem_of_mem hb
    obtain⟨a0,kh,hf⟩:=l2 j _ (List.getElem?_eq_getElem hj)
    exact((ih _ _ _ (h4 j a0 kh) hf).2 (h2 a0 (List.mem_of_getElem? kh))).2) (fun j hj=>h3 j (by rw[<-l1];exact hj)) (fun j b hj=>by
    obtain⟨a0,kh,hf⟩:=l2 j b hj
    exact((ih _ _ _ (h4 j a0 kh) hf).2 (h2 a0 (List.mem_of_getElem? kh))).1)
   exact⟨.eE _ _ hI,fun hc=>by simp[AV.cell]at hc⟩
  |fN cs=>
   rw[fz]at h
   simp only[Option.map_eq_some_iff]at h
   obtain⟨r',nS,rfl⟩:=h
   obtain⟨vs,f,rfl,h1,h3,h4⟩:=uQ hr
   obtain⟨l1,l2⟩:=gE nS
   exact⟨.fN r' vs f (by rw[h1,l1]) (fun j hj=>h3 j (by rw[<-l1];exact hj)) (fun j b hj=>by
    obtain⟨a0,kh,hf⟩:=l2 j b hj
    exact(ih _ _ _ (h4 j a0 kh) hf).1),fun hc=>by simp[AV.cell]at hc⟩
  |fn f dG=>
   rw[fz]at h
   split at h
   ·rename_i eI
    simp only[Option.map_eq_some_iff]at h
    obtain⟨r',nS,rfl⟩:=h
    obtain⟨vs,q,rfl,h0,h1,h3,h4⟩:=s4 hr
    obtain⟨l1,l2⟩:=gE nS
    exact both (.fn f r' vs q h0 (by rw[h1,l1]) (fun j hj=>h3 j (by rw[<-l1];exact hj)) (fun j b hj=>by
     obtain⟨a0,kh,hf⟩:=l2 j b hj
     exact((ih _ _ _ (h4 j a0 kh) hf).2 (List.all_eq_true.1 eI a0 (List.mem_of_getElem? kh))).1)) rfl
   ·simp at h
  |int k m=>rw[fz]at h<;>(try simp at h)<;>(try subst h)<;>(try(rw[dI hr];exact⟨.eE _ _ (.int _ _),fun _=>⟨.int _ _,rfl⟩⟩))<;>(try(intros;simp_all))
  |bool b=>rw[fz]at h<;>(try simp at h)<;>(try subst h)<;>(try(rw[fA hr];exact⟨.eE _ _ (.bool _),fun _=>⟨.bool _,rfl⟩⟩))<;>(try(intros;simp_all))
  |str b=>rw[fz]at h<;>(try simp at h)<;>(try subst h)<;>(try(rw[fU hr];exact⟨.eE _ _ (.str _),fun _=>⟨.str _,rfl⟩⟩))<;>(try(intros;simp_all))
  |bP=>rw[fz]at h<;>(try simp at h)<;>(try subst h)<;>(try(rw[iN hr];exact⟨.eE _ _ .bP,fun _=>⟨.bP,rfl⟩⟩))<;>(try(intros;simp_all))
  |iS=>rw[fz]at h<;>(try simp at h)<;>(try subst h)<;>(try(rw[xj hr];exact⟨.eE _ _ .iS,fun _=>⟨.iS,rfl⟩⟩))<;>(try(intros;simp_all))
  |jf=>rw[fz]at h<;>(try simp at h)<;>(try subst h)<;>(try(rw[C5 hr];exact⟨.eE _ _ .jf,fun _=>⟨.jf,rfl⟩⟩))<;>(try(intros;simp_all))
  |iF=>rw[fz]at h<;>(try simp at h)<;>(try subst h)<;>(try(rw[xi hr];exact⟨.eE _ _ .iF,fun _=>⟨.iF,rfl⟩⟩))<;>(try(intros;simp_all))
  |err g t s=>rw[fz]at h<;>(try simp at h)<;>(try subst h)<;>(try(cases hr with|eE _ _ hr=>exact both (hr.frame (fun _ _=>rfl) hD) rfl))<;>(try(intros;simp_all))
  |tX f dG=>rw[fz]at h<;>(try simp at h)<;>(try(intros;simp_all))
  |gQ=>rw[fz]at h<;>(try simp at h)<;>(try subst h)<;>(try(cases hr with|eE _ _ hr=>exact both (hr.frame (fun _ _=>rfl) hD) rfl))<;>(try(intros;simp_all))
  |sl rows=>rw[fz]at h<;>(try simp at h)<;>(try subst h)<;>(try(cases hr with|eE _ _ hr=>exact both (hr.frame (fun _ _=>rfl) hD) rfl))<;>(try(intros;simp_all))
  |fe cs=>rw[fz]at h<;>(try simp at h)<;>(try subst h)<;>(try(cases hr with|eE _ _ hr=>exact both (hr.frame (fun _ _=>rfl) hD) rfl))<;>(try(intros;simp_all))
theorem iR:∀{n:Nat} {l r:List AV},eU g n l=some r->r.length=l.length/\∀(j:Nat) (b:AV),r[j]? =some b->∃a,l[j]? =some a/\gx g n a=some b
 |n,[],r,h=>by
  rw[eU]at h;simp at h;subst h;simp
 |n,a::l,r,h=>by
  rw[eU]at h
  split at h
  ·rename_i b hb
   simp only[Option.map_eq_some_iff]at h
   obtain⟨r',hr,rfl⟩:=h
   obtain⟨h1,h2⟩:=iR hr
   refine⟨by simp[h1],fun j c hj=>?_⟩
   cases j with
   |zero=>simp at hj;subst hj;exact⟨a,rfl,hb⟩
   |succ j=>simp at hj ⊢;exact h2 j c hj
  ·simp at h
theorem tJ:∀{n:Nat} {l r:List (List AV)},fS g n l=some r->r.length=l.length/\∀(j:Nat) (b:List AV),r[j]? =some b->∃a,l[j]? =some a/\eU g n a=some b
 |n,[],r,h=>by
  rw[fS]at h;simp at h;subst h;simp
 |n,a::l,r,h=>by
  rw[fS]at h
  split at h
  ·rename_i b hb
   simp only[Option.map_eq_some_iff]at h
   obtain⟨r',hr,rfl⟩:=h
   obtain⟨h1,h2⟩:=tJ hr
   refine⟨by simp[h1],fun j c hj=>?_⟩
   cases j with
   |zero=>simp at hj;subst hj;exact⟨a,rfl,hb⟩
   |succ j=>simp at hj ⊢;exact h2 j c hj
  ·simp at h
theorem Hk (si:∀id row,g id=some row->row.w=true->∃B,ι id=some B/\gC P w D ι B row/\D2 B.b):∀(n:Nat) (a:AV) (u:Value) (r:AV),dE P w D ι a u->gx g n a=some r->dE P w D2 ι2 r u/\(a.cell=true->jA P w D2 r u/\r.cell=true):=by
 intro n
 induction n with
 |zero=>intro a u r _ h;rw[gx]at h;simp at h
 |succ n ih=>
  intro a u r hr h
  have both:∀{r:AV},jA P w D2 r u->r.cell=true->dE P w D2 ι2 r u/\(a.cell=true->jA P w D2 r u/\r.cell=true):=fun h1 h2=>⟨.eE _ _ h1,fun _=>⟨h1,h2⟩⟩
  cases a with
  |map id m=>rw[gx]at h<;>simp_all
  |qR id=>rw[gx]at h<;>simp_all
  |own id off len=>
   rw[gx]at h
   split at h
   ·rename_i row hg
    split at h
    ·rename_i hw
     split at h
     ·rename_i hle
      simp only[Option.map_eq_some_iff]at h
      obtain⟨rows,j5,rfl⟩:=h
      obtain⟨B,hB,R,QL⟩:=si id row hg hw
      obtain⟨o,cap,B',rfl,ef,h1,h2,h3,h4,hk⟩:=iz hr
      rw[hB]at ef;injection ef with ef;subst ef
      replace R:=R.row hk
      obtain⟨l1,l2⟩:=tJ j5
      have hlen:rows.length=len:=by rw[l1];simp;omega
      by_cases h0:rows=[]
      ·subst h0
       simp at hlen;subst hlen
       exact both (.Bd _ _ h4) rfl
      ·have hlp:0<len:=by rw[<-hlen];exact List.length_pos_iff.2 h0
       have ho:o=off*B.sz:=by rcases h2 with h2|h2<;>omega
       have src:∀i cs,rows[i]? =some cs->∃c0,row.rows[off+i]? =some c0/\eU g n c0=some cs:=fun i cs hi=>by
        obtain⟨c0,jt,hf⟩:=l2 i cs hi
        rw[List.getElem?_take]at jt
        split at jt
        ·rw[List.getElem?_drop]at jt;exact⟨c0,jt,hf⟩
        ·simp at jt
       have cell:∀i j,i<len->j<row.sz->∃c0 a0 v,row.rows[off+i]? =some c0/\c0[j]? =some a0/\w.cell? ⟨B.b,o+(i*row.sz+j),none⟩=some v/\dE P w D ι a0 v:=fun i j hi hj=>by
        have qD:off+i<row.rows.length:=ab
        have e1:=List.getElem?_eq_getElem qD
        have Mu:j<row.rows[off+i].length:=by rw[R.len _ (List.getElem_mem qD)];exact hj
        obtain⟨v,hv,nT⟩:=R.at_ _ _ _ _ e1 (List.getElem?_eq_getElem Mu)
        refine⟨_,_,v,e1,List.getElem?_eq_getElem Mu,?_,nT⟩
        rw[ho,R.sz,<-hv]
        congr 2
        rw[Nat.add_mul];omega
       refine both (.sl rows B.b o len cap row.sz (fun i j=>(w.cell? ⟨B.b,o+(i*row.sz+j),none⟩).getD undef) hlen h1 h4 QL (fun cs dW=>?_) (fun cs dW b hb=>?_) (fun i j hi hj=>?_) (fun i j cs b hi hj=>?_)) rfl
       ·obtain⟨i,hi,rfl⟩:=List.getElem_of_mem dW
        obtain⟨c0,jt,hf⟩:=src i _ (List.getElem?_eq_getElem hi)
        rw[(iR hf).1];exact R.len c0 (List.mem_of_getElem? jt)
       ·obtain⟨i,hi,rfl⟩:=List.getElem_of_mem dW
        obtain⟨c0,jt,hf⟩:=src i _ (List.getElem?_eq_getElem hi)
        obtain⟨j,hj,rfl⟩:=List.getElem_of_mem hb
        obtain⟨a0,kh,J7⟩:=(iR hf).2 j _ (List.getElem?_eq_getElem hj)
        obtain⟨v,_,nT⟩:=R.at_ _ _ _ _ jt kh
        exact((ih _ _ _ nT J7).2 (R.flat c0 (List.mem_of_getElem? jt) a0 (List.mem_of_getElem? kh))).2
       ·obtain⟨c0,a0,v,_,_,hv,_⟩:=cell i j hi hj
        simp only[hv,Option.getD_some]
       ·obtain⟨c0,jt,hf⟩:=src i cs hi
        obtain⟨a0,kh,J7⟩:=(iR hf).2 j b hj
        have pN:i<len:=by rw[<-hlen];exact(List.getElem?_eq_some_iff.1 hi).1
        have ja:j<row.sz:=by rw[<-R.len c0 (List.mem_of_getElem? jt)];exact(List.getElem?_eq_some_iff.1 kh).1
        obtain⟨c1,a1,v,e1,e2,hv,nT⟩:=cell i j pN ja
        rw[jt]at e1;injection e1 with e1;subst e1
        rw[kh]at e2;injection e2 with e2;subst e2
        simp only[hv,Option.getD_some]
        exact((ih _ _ _ nT J7).2 (R.flat c0 (List.mem_of_getElem? jt) a0 (List.mem_of_getElem? kh))).1
     ·simp at h
    ·simp at h
   ·simp at h
  |ptr id i off=>
   rw[gx]at h
   split at h
   ·rename_i row hg
    split at h
    ·rename_i hw
     split at h
     ·rename_i c0 jt
      simp only[Option.map_eq_some_iff]at h
      obtain⟨cs,dW,rfl⟩:=h
      obtain⟨B,hB,R,QL⟩:=si id row hg hw
      obtain⟨B',rfl,ef,hk⟩:=gW hr
      rw[hB]at ef;injection ef with ef;subst ef
      replace R:=R.row hk
      obtain⟨l1,l2⟩:=iR dW
      have at_:∀j b,cs[j]? =some b->∃a0 v,w.cell? ⟨B.b,i*B.sz+off+j,none⟩=some v/\dE P w D ι a0 v/\a0.cell=true/\gx g n a0=some b:=fun j b hj=>by
       obtain⟨a0,kh,hf⟩:=l2 j b hj
       rw[List.getElem?_drop]at kh
       obtain⟨v,hv,nT⟩:=R.at_ _ _ _ _ jt kh
       refine⟨a0,v,?_,nT,R.flat c0 (List.mem_of_getElem? jt) a0 (List.mem_of_getElem? kh),hf⟩
       rw[R.sz,Nat.add_assoc];exact hv
      refine both (.fe cs B.b _ (fun j=>(w.cell? ⟨B.b,i*B.sz+off+j,none⟩).getD undef) QL (fun b hb=>?_) (fun j hj=>?_) (fun j b hj=>?_)) rfl
      ·obtain⟨j,hj,rfl⟩:=List.getElem_of_mem hb
       obtain⟨a0,v,_,nT,hc,hf⟩:=at_ j _ (List.getElem?_eq_getElem hj)
       exact((ih _ _ _ nT hf).2 hc).2
      ·obtain⟨a0,v,hv,_⟩:=at_ j _ (List.getElem?_eq_getElem hj)
       simp only[hv,Option.getD_some]
      ·obtain⟨a0,v,hv,nT,hc,hf⟩:=at_ j b hj
       simp only[hv,Option.getD_some]
       exact((ih _ _ _ nT hf).2 hc).1
     ·simp at h
    ·simp at h
   ·simp at h
  |agg cs=>
   rw[gx]at h
   simp only[Option.map_eq_some_iff]at h
   obtain⟨r',nS,rfl⟩:=h
   obtain⟨vs,f,rfl,h1,h2,h3,h4⟩:=iy hr
   obtain⟨l1,l2⟩:=iR nS
   have hI:jA P w D2 (.agg r') (.agg vs):=.agg r' vs f (by rw[h1,l1]) (fun b hb=>by
    obtain⟨j,hj,rfl⟩:=List.getElem_of_mem hb
    obtain⟨a0,kh,hf⟩:=l2 j _ (List.getElem?_eq_getElem hj)
    exact((ih _ _ _ (h4 j a0 kh) hf).2 (h2 a0 (List.mem_of_getElem? kh))).2) (fun j hj=>h3 j (by rw[<-l1];exact hj)) (fun j b hj=>by
    obtain⟨a0,kh,hf⟩:=l2 j b hj
    exact((ih _ _ _ (h4 j a0 kh) hf).2 (h2 a0 (List.mem_of_getElem? kh))).1)
   exact⟨.eE _ _ hI,fun hc=>by simp[AV.cell]at hc⟩
  |fN cs=>
   rw[gx]at h
   simp only[Option.map_eq_some_iff]at h
   obtain⟨r',nS,rfl⟩:=h
   obtain⟨vs,f,rfl,h1,h3,h4⟩:=uQ hr
   obtain⟨l1,l2⟩:=iR nS
   exact⟨.fN r' vs f (by rw[h1,l1]) (fun j hj=>h3 j (by rw[<-l1];exact hj)) (fun j b hj=>by
    obtain⟨a0,kh,hf⟩:=l2 j b hj
    exact(ih _ _ _ (h4 j a0 kh) hf).1),fun hc=>by simp[AV.cell]at hc⟩
  |fn f dG=>rw[gx]at h<;>(try simp at h)<;>(try(intros;simp_all))
  |int k m=>rw[gx]at h<;>(try simp at h)<;>(try subst h)<;>(try(rw[dI hr];exact⟨.eE _ _ (.int _ _),fun _=>⟨.int _ _,rfl⟩⟩))<;>(try(intros;simp_all))
  |bool b=>rw[gx]at h<;>(try simp at h)<;>(try subst h)<;>(try(rw[fA hr];exact⟨.eE _ _ (.bool _),fun _=>⟨.bool _,rfl⟩⟩))<;>(try(intros;simp_all))
  |str b=>rw[gx]at h<;>(try simp at h)<;>(try subst h)<;>(try(rw[fU hr];exact⟨.eE _ _ (.str _),fun _=>⟨.str _,rfl⟩⟩))<;>(try(intros;simp_all))
  |bP=>rw[gx]at h<;>(try simp at h)<;>(try subst h)<;>(try(rw[iN hr];exact⟨.eE _ _ .bP,fun _=>⟨.bP,rfl⟩⟩))<;>(try(intros;simp_all))
  |iS=>rw[gx]at h<;>(try simp at h)<;>(try subst h)<;>(try(rw[xj hr];exact⟨.eE _ _ .iS,fun _=>⟨.iS,rfl⟩⟩))<;>(try(intros;simp_all))
  |jf=>rw[gx]at h<;>(try simp at h)<;>(try subst h)<;>(try(rw[C5 hr];exact⟨.eE _ _ .jf,fun _=>⟨.jf,rfl⟩⟩))<;>(try(intros;simp_all))
  |iF=>rw[gx]at h<;>(try simp at h)<;>(try subst h)<;>(try(rw[xi hr];exact⟨.eE _ _ .iF,fun _=>⟨.iF,rfl⟩⟩))<;>(try(intros;simp_all))
  |err g t s=>rw[gx]at h<;>(try simp at h)<;>(try(intros;simp_all))
  |tX f dG=>rw[gx]at h<;>(try simp at h)<;>(try(intros;simp_all))
  |gQ=>rw[gx]at h<;>(try simp at h)<;>(try subst h)<;>(try(cases hr with|eE _ _ hr=>cases hr;exact both .gQ rfl))<;>(try(intros;simp_all))
  |sl rows=>rw[gx]at h<;>(try simp at h)<;>(try(intros;simp_all))
  |fe cs=>rw[gx]at h<;>(try simp at h)<;>(try(intros;simp_all))
end
end Go.Proofs.YtalkncaokeaifaaGreatDoor.V

namespace Go.Proofs.YtalkncaokeaifaaGreatDoor.V
open Go.RowKit
variable {P:Program} {w w':World} {D D':Nat->Prop} {ι ι':Names}
section
variable {g:Rows} {hs:Nat} {env:Env} {a:Act} {o:Oper} {id:Id} {v:AV}
theorem fZ.Iq (S:fZ P hs D ι g w) {i:Id} {r r':Row} {B:sr} {ob:Obj} (hid:g i=some r) (hw:r.w=true) (hB:ι i=some B)
  (hR:(∀a v,dE P w D ι a v->dE P {w with heap:=w.heap.setIfInBounds B.b ob} D ι a v)->(w.heap.setIfInBounds B.b ob)[B.b]? =some ob->gC P {w with heap:=w.heap.setIfInBounds B.b ob} D ι B r'):
  fZ P hs D ι (bz g i r') {w with heap:=w.heap.setIfInBounds B.b ob}/\Step hs D ι w D ι {w with heap:=w.heap.setIfInBounds B.b ob}:=by
 obtain⟨B0,yd,R,k6,po⟩:=S.row i r hid
 rw[hB]at yd;injection yd with yd;subst yd
 have other:∀b,b≠B.b->(w.heap.setIfInBounds B.b ob)[b]? =w.heap[b]? :=fun b hb=>by simp[Ne.symm hb]
 have hd:∀b,D b->(w.heap.setIfInBounds B.b ob)[b]? =w.heap[b]? :=fun b hb=>other b (by rintro rfl;exact po hw hb)
 have hr:∀a v,dE P w D ι a v->dE P {w with heap:=w.heap.setIfInBounds B.b ob} D ι a v:=fun a v h=>h.frame hd (fun _ h=>h) (fun _ _ h=>h)
 refine⟨⟨by simpa using S.lo,fun b hb=>by simpa using S.dead b hb,fun j q h=>?_,fun j j' q q' C C' h h' Km hC uj he=>?_⟩,⟨⟨rfl,rfl,rfl,by simp,fun k hk=>other k (by have:=k6 hw;omega)⟩,hd,fun _ h=>h,fun _ _ h=>h,fun _ h=>.inl h⟩⟩
 ·unfold bz at h
  split at h
  ·rename_i e
   subst e
   injection h with h;subst h
   exact⟨B,hB,hR hr (by simp[R.lt]),fun _=>k6 hw,fun _=>po hw⟩
  ·rename_i e
   obtain⟨C,hC,RC,k1,k2⟩:=S.row j q h
   refine⟨C,hC,RC.frame (other C.b (fun Ds=>e ?_)) hr,k1,k2⟩
   exact(S.inj i j r q B C hid h hw hB hC Ds.symm).symm
 ·unfold bz at h h'
  have get:∀j p,(if j=i then some r' else g j)=some p->∃p0,g j=some p0/\(p.w=true->p0.w=true):=fun j p hp=>by
   split at hp
   ·rename_i e;subst e;injection hp with hp;subst hp;exact⟨r,hid,fun _=>hw⟩
   ·exact⟨p,hp,fun h=>h⟩
  obtain⟨p,hp,SR⟩:=get _ _ h
  obtain⟨p',Rb,_⟩:=get _ _ h'
  exact S.inj j j' p p' C C' hp Rb (SR Km) hC uj he
theorem FR {s:TS} {x y:AV} {u v:Value} (he:er s x y=some true) (hx:dE P w D ι x u) (hy:dE P w D ι y v):u=v/\∀n,Instr.sameBits n u v=true:=by
 unfold er at he
 split at he
 ·split at he
  ·rename_i hk
   subst hk
   simp at he;subst he
   rw[dI hx,dI hy]
   exact⟨rfl,fun n=>by cases n<;>simp[Instr.sameBits]⟩
  ·cases he
 ·simp at he;subst he
  rw[fA hx,fA hy]
  exact⟨rfl,fun n=>by cases n<;>simp[Instr.sameBits]⟩
 ·simp at he;subst he
  rw[fU hx,fU hy]
  exact⟨rfl,fun n=>by cases n<;>simp[Instr.sameBits,Jm]⟩
 ·cases he
theorem B4 {n:Nat}:∀{ts:List TS} {xs ys:List AV} {vs us:List Value},ea ts xs ys=some true->vs.length=xs.length->us.length=ys.length->(∀(j:Nat) (a:AV),xs[j]? =some a->∃u,vs[j]? =some u/\dE P w D ι a u)->(∀(j:Nat) (a:AV),ys[j]? =some a->∃u,us[j]? =some u/\dE P w D ι a u)->
  us.length=vs.length/\(us.zip vs).all (fun p=>Instr.sameBits n p.1 p.2)=true
 |[],[],[],vs,us,_,h1,h2,_,_=>by
  cases vs<;>cases us<;>simp_all
 |[],x::xs,ys,vs,us,h,_,_,_,_=>by simp[ea]at h
 |[],[],y::ys,vs,us,h,_,_,_,_=>by simp[ea]at h
 |t::ts,[],ys,vs,us,h,_,_,_,_=>by simp[ea]at h
 |t::ts,x::xs,[],vs,us,h,_,_,_,_=>by simp[ea]at h
 |t::ts,x::xs,y::ys,[],us,h,h1,_,_,_=>by simp at h1
 |t::ts,x::xs,y::ys,v::vs,[],h,_,h2,_,_=>by simp at h2
 |t::ts,x::xs,y::ys,v::vs,u::us,h,h1,h2,hx,hy=>by
  unfold ea at h
  split at h
  ·rename_i a b ha hb
   simp only[Option.some.injEq,Bool.and_eq_true]at h
   obtain⟨rfl,rfl⟩:=h
   obtain⟨v',nO,rv⟩:=hx 0 x rfl
   obtain⟨u',F9,ru⟩:=hy 0 y rfl
   simp at nO F9;subst nO;subst F9
   obtain⟨e1,e2⟩:=FR ha rv ru
   obtain⟨q1,q2⟩:=B4 (n:=n) hb (by simpa using h1) (by simpa using h2) (fun j a hj=>by simpa using hx (j+1) a (by simpa using hj)) (fun j a hj=>by simpa using hy (j+1) a (by simpa using hj))
   refine⟨by simp[q1],?_⟩
   simp only[List.zip_cons_cons,List.all_cons,q2,Bool.and_true]
   rw[<-e1]
   have:=e2 n
   rw[<-e1]at this
   exact this
  ·cases h
theorem CJ {m:MK} {key:List AV}:∀{rows:List (List AV)} {i j:Nat},fK m key rows i=some (some j)->∃cs,i<=j/\rows[j-i]? =some cs/\ea m.ts key (cs.take m.ks)=some true
 |[],i,j,h=>by simp[fK]at h
 |cs::rows,i,j,h=>by
  unfold fK at h
  split at h
  ·rename_i hq
   simp at h;subst h
   exact⟨cs,Nat.le_refl _,by simp,hq⟩
  ·obtain⟨c,h1,h2,h3⟩:=CJ h
   exact⟨c,ab,by rw[show j-i=(j-(i+1))+1 by omega];simpa using h2,h3⟩
  ·cases h
theorem wO {m:MK} {k:AV} {rows:List (List AV)} {fi:Option Nat} (h:fq m k rows=some fi):k.isAgg=m.ka/\k.cells.length=m.ks/\(k.cells.all AV.cell=true)/\fK m k.cells rows 0=some fi:=by
 unfold fq at h
 split at h
 ·rename_i hc;exact⟨hc.1,hc.2.1,hc.2.2,h⟩
 ·cases h
theorem Lb {m:MK} {k y:AV} (h1:k.isAgg=m.ka) (h2:k.cells.length=m.ks):part m.ka m.ks (k.cells++[y])=some k/\(k.cells++[y])[m.ks]? =some y:=by
 refine⟨?_,by rw[List.getElem?_append_right ab,h2,Nat.sub_self];rfl⟩
 cases hk:m.ka with
 |false=>
  rw[hk]at h1
  rw[vI h1];rfl
 |true=>
  rw[hk]at h1
  cases k<;>simp[AV.isAgg]at h1
  rename_i cs
  simp only[AV.cells]at h2 ⊢
  simp only[part,if_true]
  rw[if_pos (by simp;omega),<-h2,List.take_left']
  rfl
theorem stays {k:TypeId} {m:MK} (hK:FB P k m) {key kv:AV} {u CW:Value} {cs:List AV} (h1:key.isAgg=m.ka) (hr:dE P w D ι key u) (hp:part m.ka m.ks cs=some kv) (ho:dE P w D ι kv CW) (he:ea m.ts key.cells (cs.take m.ks)=some true):(Instr.keyThatStays CW u).run P w=.ok u w:=by
 have hs:Instr.sameBits 10000 CW u=true:=by
  rcases hK with⟨s,rfl,hs⟩|⟨fs,ts,rfl,rl,qE,ed,eI⟩
  ·rw[vI h1]at he
   cases cs with
   |nil=>simp[part]at hp
   |cons c l=>
    simp[part]at hp;subst hp
    simp only[MK.ks,List.length_cons,List.length_nil,Nat.zero_add,List.take_succ_cons,List.take_zero,ea]at he
    cases hq:er s key c with
    |none=>rw[hq]at he;simp at he
    |some b=>
     rw[hq]at he;simp at he;subst he
     obtain⟨e1,e2⟩:=FR hq hr ho
     rw[<-e1]
     have:=e2 10000
     rwa [<-e1]at this
  ·cases key<;>simp[AV.isAgg]at h1
   rename_i ks
   simp only[part,if_true]at hp
   split at hp
   ·simp only[Option.some.injEq]at hp;subst hp
    obtain⟨vs,rfl,n1,r1⟩:=rU hr
    obtain⟨us,rfl,n2,r2⟩:=rU ho
    obtain⟨q1,q2⟩:=B4 (n:=9999) (vs:=vs.toList) (us:=us.toList) he (by simpa[AV.cells]using n1) (by simpa using n2) (fun j a hj=>by simpa using r1 j a hj) (fun j a hj=>by simpa using r2 j a hj)
    simp only[Instr.sameBits,Bool.and_eq_true,beq_iff_eq]
    exact⟨by simpa using q1,q2⟩
   ·cases hp
 simp[Instr.keyThatStays,hs]
theorem LQ {es:Array MapEntry} {clock:Nat} (h:FE es clock) (k v:Value):FE (es.push ⟨k,v,clock⟩) (clock+1):=by
 refine⟨fun x hx=>?_,?_⟩
 ·simp only[Array.toList_push,List.mem_append,List.mem_singleton]at hx
  rcases hx with hx|rfl
  ·have:=h.1 x hx;omega
  ·exact Nat.lt_succ_self _
 ·simp only[Array.toList_push,List.map_append,List.map_cons,List.map_nil]
  refine List.nodup_append.2 ⟨h.2,by simp,fun a ha b hb=>?_⟩
  obtain⟨x,hx,rfl⟩:=List.mem_map.1 ha
  simp at hb;subst hb
  have:=h.1 x hx;omega
theorem Fp {es:Array MapEntry} {clock:Nat} (h:FE es clock) (j:Nat) (k v:Value):FE (es.modify j fun e=>{e with key:=k,val:=v}) clock:=by
 have e:(es.modify j fun e=>{e with key:=k,val:=v}).toList.map (·.born)=es.toList.map (·.born):=by
  refine List.ext_getElem? fun i=>?_
  simp only[List.getElem?_map,Array.getElem?_toList,Array.getElem?_modify]
  split
  ·cases es[i]? <;>rfl
  ·rfl
 refine⟨fun x hx=>?_,by rw[e];exact h.2⟩
 have hb:x.born∈(es.modify j fun e=>{e with key:=k,val:=v}).toList.map (·.born):=List.mem_map_of_mem hx
 rw[e]at hb
 obtain⟨y,hy,hyb⟩:=List.mem_map.1 hb
 rw[<-hyb];exact h.1 y hy
theorem Ij {es:Array MapEntry} {clock:Nat} (h:FE es clock) {j:Nat} (hj:j<es.size):FE (es.eraseIdxIfInBounds j) clock:=by
 have e:(es.eraseIdxIfInBounds j).toList=es.toList.eraseIdx j:=by
  unfold Array.eraseIdxIfInBounds
  rw[dif_pos hj,Array.toList_eraseIdx]
 refine⟨fun x hx=>h.1 x ((List.eraseIdx_sublist _ _).subset (by rwa [e]at hx)),?_⟩
 rw[e]
 exact((List.eraseIdx_sublist es.toList j).map (·.born)).nodup h.2
theorem B9 {k y:AV} (h1:k.cells.all AV.cell=true) (h2:y.cell=true):∀a∈k.cells++[y],a.cell=true:=fun a ha=>by
 rcases List.mem_append.1 ha with ha|ha
 ·exact List.all_eq_true.1 h1 a ha
 ·rw[List.mem_singleton.1 ha];exact h2
theorem Qx {t:TypeId} {x k y:Operand} {m:MK} {z:K} {x' k' y':O} {g':Rows} (S:fZ P hs D ι g w) (E:dh P w D ι env a) (ho:o.op=.mapUpdate t x k y∨o.op=.insert t x k y) (hc:sC P t=some (m,z)) (hx:cO P x=some x') (hk:cO P k=some k') (hy:cO P y=some y')
  (hv:bd (.set m) [cZ env x',cZ env k',cZ env y'] g=some g'):DE P hs a o w D ι id .undef g':=by
 obtain⟨kt,e,i,zv,ht,hi,wv,Uw,hK⟩:=qO hc
 simp only[bd,Option.bind_eq_some_iff]at hv
 obtain⟨p,hp,fi,yg,hv⟩:=hv
 split at hv
 ·rename_i hcond
  obtain⟨hw,hyc,_⟩:=hcond
  simp only[Option.some.injEq]at hv;subst hv
  obtain⟨B,hu,hg,hB,uI,es,clock,hb,fc,hlen,hM⟩:=AP S (dM E hx) hp
  have rk:=dM E hk
  have ry:=dM E hy
  obtain⟨QW,res,hf,hF⟩:=vQ (B:=B) hK rk fc hM yg
  obtain⟨k1,k2,k3,k4⟩:=wO yg
  obtain⟨B',ef,R,_⟩:=S.row p.1 p.2 hg
  rw[hB]at ef;injection ef with ef;subst ef
  obtain⟨pk1,pk2⟩:=Lb (y:=cZ env y') k1 k2
  have iK:(getObj B.b).run P w=.ok (.map es clock) w:=MapKept.run_getObj_map hb
  rcases hF with⟨rfl,rfl⟩|⟨j,en,rfl,he,rfl⟩
  ·have nN:=S.Iq (ob:=.map (es.push ⟨a.eval k,a.eval y,clock⟩) (clock+1)) (r':={p.2 with rows:=cY p.2.rows ((cZ env k').cells++[cZ env y']) none}) hg hw hB fun hr jC=>⟨R.sz,fun cs dW=>?_,fun oJ=>(by rw[uI]at oJ;cases oJ),fun m' Cn=>?_,fun c hc=>(by rw[uI]at hc;cases hc)⟩
   ·refine⟨undef,_,ι,.inr ⟨?_,rfl⟩,nN.2,nN.1,dE.undef,fun _ _=>rfl⟩
    rcases ho with ho|ho<;>
    ·simp only[execOp,ho,Instr.mapUpdate,hu,Sem.run_bind,run_underlying ht,Result.andThen_ok,iK,QW,hf,MapKept.run_setObj_map _ hb,Sem.run_pure]
   ·rcases List.mem_append.1 dW with h|h
    ·exact R.flat cs h
    ·rw[List.mem_singleton.1 h];exact B9 k3 hyc
   ·rw[uI]at Cn;simp only[Option.some.injEq,BK.map.injEq]at Cn;subst Cn
    refine⟨(R.map m uI).1,_,_,jC,by simp[cY,fc],⟨fun cs dW=>?_,LQ hlen.2 _ _⟩,fun q cs hq=>?_⟩
    ·rcases List.mem_append.1 dW with h|h
     ·exact hlen.1 cs h
     ·rw[List.mem_singleton.1 h];simp[k2]
    ·rcases Nat.lt_or_ge q p.2.rows.length with eJ|tN
     ·simp only[cY]at hq
      rw[List.getElem?_append_left eJ]at hq
      obtain⟨en,kv,vv,q1,q2,q3,q4,q5⟩:=hM q cs hq
      exact⟨en,kv,vv,by rw[Array.getElem?_push_lt ab];rw[Array.getElem?_eq_getElem ab]at q1;simpa using q1,q2,q3,hr _ _ q4,hr _ _ q5⟩
     ·simp only[cY]at hq
      rw[List.getElem?_append_right tN]at hq
      have Pw:q=p.2.rows.length:=by
       have:=(List.getElem?_eq_some_iff.1 hq).1
       simp at this;omega
      subst Pw
      simp at hq;subst hq
      exact⟨⟨a.eval k,a.eval y,clock⟩,_,_,by rw[<-fc];simp,pk1,pk2,hr _ _ rk,hr _ _ ry⟩
  ·simp only[Nat.zero_add]at k4 yg hf ⊢
   obtain⟨Wb,_,Nt,heq⟩:=CJ k4
   simp only[Nat.sub_zero]at Nt
   obtain⟨Tr,kv,vv,q1,q2,_,q4,_⟩:=hM j Wb Nt
   have Pp:Tr=en:=by
    have h1:es.toList[j]? =some Tr:=by simpa using q1
    rw[he]at h1;injection h1 with h1;exact h1.symm
   subst Pp
   have ed:=stays (w:=w) hK k1 rk q2 q4 heq
   have nN:=S.Iq (ob:=.map (es.modify j fun e=>{e with key:=a.eval k,val:=a.eval y}) clock) (r':={p.2 with rows:=cY p.2.rows ((cZ env k').cells++[cZ env y']) (some j)}) hg hw hB fun hr jC=>⟨R.sz,fun cs dW=>?_,fun oJ=>(by rw[uI]at oJ;cases oJ),fun m' Cn=>?_,fun c hc=>(by rw[uI]at hc;cases hc)⟩
   ·refine⟨undef,_,ι,.inr ⟨?_,rfl⟩,nN.2,nN.1,dE.undef,fun _ _=>rfl⟩
    rcases ho with ho|ho<;>
    ·simp only[execOp,ho,Instr.mapUpdate,hu,Sem.run_bind,run_underlying ht,Result.andThen_ok,iK,QW,hf,q1,Option.map_some,Option.getD_some,ed,MapKept.run_setObj_map _ hb,Sem.run_pure]
   ·rcases List.mem_or_eq_of_mem_set dW with h|h
    ·exact R.flat cs h
    ·rw[h];exact B9 k3 hyc
   ·rw[uI]at Cn;simp only[Option.some.injEq,BK.map.injEq]at Cn;subst Cn
    have ja:=(List.getElem?_eq_some_iff.1 Nt).1
    refine⟨(R.map m uI).1,_,_,jC,by simp[cY,fc],⟨fun cs dW=>?_,Fp hlen.2 _ _ _⟩,fun q cs hq=>?_⟩
    ·rcases List.mem_or_eq_of_mem_set dW with h|h
     ·exact hlen.1 cs h
     ·rw[h];simp[k2]
    ·simp only[cY,List.getElem?_set]at hq
     split at hq
     ·rename_i hjq
      subst hjq
      (try rw[if_pos ja]at hq)
      injection hq with hq;subst hq
      exact⟨{Tr with key:=a.eval k,val:=a.eval y},_,_,by rw[Array.getElem?_modify];simp[q1],pk1,pk2,hr _ _ rk,hr _ _ ry⟩
     ·rename_i hjq
      obtain⟨en,kv,vv,q1,q2,q3,q4,q5⟩:=hM q cs hq
      exact⟨en,kv,vv,by rw[Array.getElem?_modify];simp[hjq,q1],q2,q3,hr _ _ q4,hr _ _ q5⟩
 ·cases hv
theorem Qw {t t':TypeId} {x k:Operand} {m:MK} {z:K} {x' k':O} {g':Rows} (S:fZ P hs D ι g w) (E:dh P w D ι env a) (ho:o.op=.call {callee:=.builtin .delete,args:= #[x,k],argTypes:= #[t,t']}) (hc:sC P t=some (m,z)) (hx:cO P x=some x') (hk:cO P k=some k')
  (hv:bd (.del m) [cZ env x',cZ env k'] g=some g'):DE P hs a o w D ι id .undef g':=by
 obtain⟨kt,e,i,zv,ht,hi,wv,Uw,hK⟩:=qO hc
 simp only[bd,Option.bind_eq_some_iff]at hv
 obtain⟨p,hp,fi,yg,hv⟩:=hv
 split at hv
 ·rename_i hw
  simp only[Option.some.injEq]at hv;subst hv
  obtain⟨B,hu,hg,hB,uI,es,clock,hb,fc,hlen,hM⟩:=AP S (dM E hx) hp
  have rk:=dM E hk
  obtain⟨QW,res,hf,hF⟩:=vQ (B:=B) hK rk fc hM yg
  obtain⟨k1,k2,k3,k4⟩:=wO yg
  obtain⟨B',ef,R,_⟩:=S.row p.1 p.2 hg
  rw[hB]at ef;injection ef with ef;subst ef
  have iK:(getObj B.b).run P w=.ok (.map es clock) w:=MapKept.run_getObj_map hb
  have go:∀ob,(Builtin.delete_ #[t,t'] o.type #[a.eval x,a.eval k]).run P w=.ok (.tuple #[]) {w with heap:=w.heap.setIfInBounds B.b ob}->(execOp a.eval o).run P w=.ok (.value undef) {w with heap:=w.heap.setIfInBounds B.b ob}:=fun ob h=>by
   simp only[execOp,ho,resolve,Sem.run_bind,Sem.run_pure,Result.andThen_ok,invoke,builtin,Array.map]
   simp[h,undef]
  rcases hF with⟨rfl,rfl⟩|⟨j,en,rfl,he,rfl⟩
  ·have nN:=S.Iq (ob:=.map es clock) (r':={p.2 with rows:=c6 p.2.rows none}) hg hw hB fun hr jC=>⟨R.sz,R.flat,fun oJ=>(by rw[uI]at oJ;cases oJ),fun m' Cn=>?_,fun c hc=>(by rw[uI]at hc;cases hc)⟩
   ·refine⟨undef,_,ι,.inl (go _ ?_),nN.2,nN.1,dE.undef,fun _ _=>rfl⟩
    simp[Builtin.delete_,hu,run_underlying ht,iK,QW,hf,MapKept.run_setObj_map _ hb]
   ·rw[uI]at Cn;simp only[Option.some.injEq,BK.map.injEq]at Cn;subst Cn
    exact⟨(R.map m uI).1,_,_,jC,fc,hlen,fun q cs hq=>by
     obtain⟨en,kv,vv,q1,q2,q3,q4,q5⟩:=hM q cs hq
     exact⟨en,kv,vv,q1,q2,q3,hr _ _ q4,hr _ _ q5⟩⟩
  ·simp only[Nat.zero_add]at hf ⊢
   have ja:j<es.size:=by have:=(List.getElem?_eq_some_iff.1 he).1;simpa using this
   have nN:=S.Iq (ob:=.map (es.eraseIdxIfInBounds j) clock) (r':={p.2 with rows:=c6 p.2.rows (some j)}) hg hw hB fun hr jC=>⟨R.sz,fun cs dW=>R.flat cs (List.mem_of_mem_eraseIdx dW),fun oJ=>(by rw[uI]at oJ;cases oJ),fun m' Cn=>?_,fun c hc=>(by rw[uI]at hc;cases hc)⟩
   ·refine⟨undef,_,ι,.inl (go _ ?_),nN.2,nN.1,dE.undef,fun _ _=>rfl⟩
    simp[Builtin.delete_,hu,run_underlying ht,iK,QW,hf,MapKept.run_setObj_map _ hb]
   ·rw[uI]at Cn;simp only[Option.some.injEq,BK.map.injEq]at Cn;subst Cn
    have he2:∀q,(es.eraseIdxIfInBounds j)[q]? =(es.toList.eraseIdx j)[q]? :=fun q=>by
     unfold Array.eraseIdxIfInBounds
     rw[dif_pos ja,<-Array.getElem?_toList,Array.toList_eraseIdx]
    refine⟨(R.map m uI).1,_,_,jC,by simp[c6,Array.eraseIdxIfInBounds,ja,List.length_eraseIdx,<-fc],⟨fun cs dW=>hlen.1 cs (List.mem_of_mem_eraseIdx dW),Ij hlen.2 ja⟩,fun q cs hq=>?_⟩
    simp only[c6,List.getElem?_eraseIdx]at hq
    split at hq
    ·rename_i eJ
     obtain⟨en,kv,vv,q1,q2,q3,q4,q5⟩:=hM q cs hq
     exact⟨en,kv,vv,by rw[he2,List.getElem?_eraseIdx,if_pos eJ];simpa using q1,q2,q3,hr _ _ q4,hr _ _ q5⟩
    ·rename_i eJ
     obtain⟨en,kv,vv,q1,q2,q3,q4,q5⟩:=hM (q+1) cs hq
     exact⟨en,kv,vv,by rw[he2,List.getElem?_eraseIdx,if_neg eJ];simpa using q1,q2,q3,hr _ _ q4,hr _ _ q5⟩
 ·cases hv
end
end Go.Proofs.YtalkncaokeaifaaGreatDoor.V
